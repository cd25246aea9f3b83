/-
 Functions, read off the code.
-/
import Derived.Test.YtgmhbmcdlkajdaaGreatDoorPtc
namespace Go.Proofs.YtgmhbmcdlkajdaaGreatDoor.Ab
open Go.RowKit
def law17_Line (n : Nat) (t0 : Int) : Option ByteArray :=
 (idx ([{ data := #[117] }, { data := #[118] }, { data := #[119] }] : List ByteArray) (Int.tmod (IntKind.i64.wrap (an t0 255 : Int)) 3)).bind fun x =>
 (idx ([{ data := #[103] }, { data := #[104] }] : List ByteArray) (IntKind.i64.wrap (an (sh t0 8) 1 : Int))).bind fun x2 =>
 (idx ([{ data := #[47] }, { data := #[47, 97] }, { data := #[47, 98] }, { data := #[47, 97, 47, 99] }, { data := #[47, 97, 47, 99, 47, 100] }] : List ByteArray) (Int.tmod (IntKind.i64.wrap (an (sh t0 9) 255 : Int)) 5)).bind fun x3 =>
 (
  (if ((Int.tmod (IntKind.i64.wrap (an (sh t0 17) 255 : Int)) 12) == 0) then
   some true
  else
   (if ((Int.tmod (IntKind.i64.wrap (an (sh t0 17) 255 : Int)) 12) == 1) then
    some true
   else
    (if ((Int.tmod (IntKind.i64.wrap (an (sh t0 17) 255 : Int)) 12) == 2) then
     some true
    else
     some ((Int.tmod (IntKind.i64.wrap (an (sh t0 17) 255 : Int)) 12) == 3)))) : Option (Bool)).bind fun t29 =>
 (if t29 then
  (cat ({ data := #[100, 105, 114, 32] }) x3).bind fun s =>
  (cat s ({ data := #[32] })).bind fun s2 =>
  (cat s2 x).bind fun s3 =>
  (cat s3 ({ data := #[32] })).bind fun s4 =>
  (cat s4 x2).bind fun s5 =>
  (cat s5 ({ data := #[32] })).bind fun s6 =>
  (law17_Acl n (sh t0 4) true).bind fun t45 =>
  (cat s6 t45).bind fun s7 =>
  some s7
 else
  (
   (if ((Int.tmod (IntKind.i64.wrap (an (sh t0 17) 255 : Int)) 12) == 4) then
    some true
   else
    (if ((Int.tmod (IntKind.i64.wrap (an (sh t0 17) 255 : Int)) 12) == 5) then
     some true
    else
     (if ((Int.tmod (IntKind.i64.wrap (an (sh t0 17) 255 : Int)) 12) == 6) then
      some true
     else
      some ((Int.tmod (IntKind.i64.wrap (an (sh t0 17) 255 : Int)) 12) == 7)))) : Option (Bool)).bind fun t47 =>
  (if t47 then
   (cat ({ data := #[102, 105, 108, 101, 32] }) x3).bind fun s8 =>
   (cat s8 ({ data := #[102, 32] })).bind fun s9 =>
   (cat s9 x).bind fun s10 =>
   (cat s10 ({ data := #[32] })).bind fun s11 =>
   (cat s11 x2).bind fun s12 =>
   (cat s12 ({ data := #[32] })).bind fun s13 =>
   (law17_Acl n (sh t0 5) false).bind fun t63 =>
   (cat s13 t63).bind fun s14 =>
   some s14
  else
   (if ((Int.tmod (IntKind.i64.wrap (an (sh t0 17) 255 : Int)) 12) == 8) then
    (cat ({ data := #[103, 114, 111, 117, 112, 32, 107, 32] }) x).bind fun s15 =>
    some s15
   else
    (if ((Int.tmod (IntKind.i64.wrap (an (sh t0 17) 255 : Int)) 12) == 9) then
     some ({ data := #[117, 115, 101, 114, 32, 120] })
    else
     (if ((Int.tmod (IntKind.i64.wrap (an (sh t0 17) 255 : Int)) 12) == 10) then
      (idx ([{ data := #[47, 102] }, { data := #[47, 97, 47, 102] }, { data := #[47, 98, 47, 102] }, { data := #[47, 97, 47, 99, 47, 102] }] : List ByteArray) (IntKind.i64.wrap (an (sh t0 9) 3 : Int))).bind fun x4 =>
      (cat ({ data := #[102, 105, 108, 101, 32] }) x4).bind fun s16 =>
      (cat s16 ({ data := #[32] })).bind fun s17 =>
      (cat s17 x).bind fun s18 =>
      (cat s18 ({ data := #[32] })).bind fun s19 =>
      (cat s19 x2).bind fun s20 =>
      (cat s20 ({ data := #[32] })).bind fun s21 =>
      (law17_Acl n (sh t0 6) ((IntKind.i64.wrap (an (sh t0 50) 7 : Int)) == 0)).bind fun t93 =>
      (cat s21 t93).bind fun s22 =>
      some s22
     else
      (idx ([{ data := #[117, 115, 101, 114] }, { data := #[117, 115, 101, 114, 32, 65] }, { data := #[100, 105, 114, 32, 97, 32, 117, 32, 103, 32, 117, 58, 58, 45, 45, 45] }, { data := #[100, 105, 114, 32, 47, 32, 117, 32, 103] }, { data := #[100, 105, 114, 32, 47, 32, 117, 32, 103, 32, 117, 58, 45, 45, 45] }, { data := #[102, 105, 108, 101, 32, 47, 97, 32, 117, 32, 103, 32, 117, 58, 58, 114, 119, 120, 120] }, { data := #[103, 114, 111, 117, 112] }, { data := #[100, 105, 114, 32, 47, 97, 47, 32, 117, 32, 103, 32, 117, 58, 58, 45, 45, 45] }] : List ByteArray) (IntKind.i64.wrap (an (sh t0 25) 7 : Int))).bind fun x5 =>
      some x5)))))
set_option maxHeartbeats 8000000 in
theorem law17_Line_ok {n : Nat} {t0 : Int} {r : ByteArray} (H : law17_Line n t0 = some r) : PureOK Tryz.prog 26 [D.v (.int .i64 t0)] (D.v (.string r)) true := by
 unfold law17_Line at H
 refine ZP tab_ok fol (rs := #[.tmp 2]) Tryz.func26 ?_
 refine zsq (ZT 1 ?_)
 refine Z0 ?_
 refine zsq (ZT 1 ?_)
 obtain ⟨x, b1, H2⟩ := zbi H
 obtain ⟨h3, h4⟩ := zix b1
 try simp only [Int.reduceToNat, Int.toNat_natCast] at h4
 have h5 := map_at eS h4
 simp only [List.map_cons, List.map_nil, eS] at h5
 have h6 := at_lt h4
 simp only [List.length_cons, List.length_nil, Nat.reduceAdd] at h6
 obtain ⟨x2, b7, H8⟩ := zbi H2
 obtain ⟨h9, h10⟩ := zix b7
 try simp only [Int.reduceToNat, Int.toNat_natCast] at h10
 have h11 := map_at eS h10
 simp only [List.map_cons, List.map_nil, eS] at h11
 have h12 := at_lt h10
 simp only [List.length_cons, List.length_nil, Nat.reduceAdd] at h12
 refine Z1 (Y6 (zno .i64 h3) h5 h6 (zno .i64 h9) h11 h12) ?_
 refine Rd_endF (by rfl) ?_
 refine Z1 (Y6 (zno .i64 h3) h5 h6 (zno .i64 h9) h11 h12) ?_
 refine zsq (ZT 1 ?_)
 obtain ⟨x3, b13, H14⟩ := zbi H8
 obtain ⟨h15, h16⟩ := zix b13
 try simp only [Int.reduceToNat, Int.toNat_natCast] at h16
 have h17 := map_at eS h16
 simp only [List.map_cons, List.map_nil, eS] at h17
 have h18 := at_lt h16
 simp only [List.length_cons, List.length_nil, Nat.reduceAdd] at h18
 refine Z1 (Y2 (Y6 (zno .i64 h3) h5 h6 (zno .i64 h9) h11 h12) (Y3 (zno .i64 h15) h17 h18)) ?_
 refine zsq (zsq ?_)
 refine ZT 1 ?_
 refine Z1 (Y2 (Y6 (zno .i64 h3) h5 h6 (zno .i64 h9) h11 h12) (Y3 (zno .i64 h15) h17 h18)) ?_
 refine zbk ?_
 refine zsq (zsq ?_)
 refine ZT 1 ?_
 refine Z1 (Y2 (Y6 (zno .i64 h3) h5 h6 (zno .i64 h9) h11 h12) (Y3 (zno .i64 h15) h17 h18)) ?_
 obtain ⟨e_, E19, H20⟩ := zbi H14
 refine zjn (α := { y : Bool // e_ = y }) (fun | ⟨t29, _⟩ => ⟨upd 0 (.v (.int .i64 t0)) (upd 3 (.v (.string x)) (upd 4 (.v (.string x2)) (upd 5 (.v (.string x3)) (upd 28 (.v (.int .i64 (Int.tmod (IntKind.i64.wrap (an (sh t0 17) 255 : Int)) 12))) (upd 29 (.v (.bool t29)) noFr))))), noHp, 0⟩) ?_ ?_
 ·refine ZT 1 ?_
  refine Z0 ?_
  rcases zit E19 with ⟨c21, H22⟩ | ⟨c21, H22⟩
  ·refine Z1 c21 ?_
   obtain rfl := Zi H22
   exact ⟨⟨true, rfl⟩, ZR []⟩
  ·refine Z1 c21 ?_
   rcases zit H22 with ⟨c23, H24⟩ | ⟨c23, H24⟩
   ·refine Z1 (Y2 c21 c23) ?_
    obtain rfl := Zi H24
    exact ⟨⟨true, rfl⟩, ZR []⟩
   ·refine Z1 (Y2 c21 c23) ?_
    rcases zit H24 with ⟨c25, H26⟩ | ⟨c25, H26⟩
    ·refine Z1 (Y3 c21 c23 c25) ?_
     obtain rfl := Zi H26
     exact ⟨⟨true, rfl⟩, ZR []⟩
    ·refine Z1 (Y3 c21 c23 c25) ?_
     obtain rfl := Zi H26
     exact ⟨⟨((Int.tmod (IntKind.i64.wrap (an (sh t0 17) 255 : Int)) 12) == 3), rfl⟩, ZR []⟩
 ·rintro ⟨t29, he165⟩
  obtain rfl := he165.symm
  try dsimp only at H20
  rcases zit H20 with ⟨c27, H28⟩ | ⟨c27, H28⟩
  ·refine runR_condT (by rfl) c27 ?_
   refine Z1 c27 ?_
   refine ZT 3 ?_
   obtain ⟨s, b29, H30⟩ := zbi H28
   obtain ⟨h31, h32⟩ := zct b29
   have h33 : 4 + x3.size ≤ maxLen := h31
   obtain ⟨s2, b34, H35⟩ := zbi H30
   obtain ⟨h36, h37⟩ := zct b34
   have h38 : s.size + 1 ≤ maxLen := h36
   obtain ⟨s3, b39, H40⟩ := zbi H35
   obtain ⟨h41, h42⟩ := zct b39
   obtain ⟨s4, b43, H44⟩ := zbi H40
   obtain ⟨h45, h46⟩ := zct b43
   have h47 : s3.size + 1 ≤ maxLen := h45
   obtain ⟨s5, b48, H49⟩ := zbi H44
   obtain ⟨h50, h51⟩ := zct b48
   obtain ⟨s6, b52, H53⟩ := zbi H49
   obtain ⟨h54, h55⟩ := zct b52
   have h56 : s5.size + 1 ≤ maxLen := h54
   obtain ⟨t45, b57, H58⟩ := zbi H53
   refine Z1 (Y3 (Y6 c27 h31 h32 h33 h36 h37) (Y6 h38 h41 h42 h45 h46 h47) (Y5 h50 h51 h54 h55 h56)) ?_
   refine ZC0 (law17_Acl_ok b57) ?_
   obtain ⟨s7, b59, H60⟩ := zbi H58
   obtain ⟨h61, h62⟩ := zct b59
   refine Z1 (Y4 (Y6 c27 h31 h32 h33 h36 h37) (Y6 h38 h41 h42 h45 h46 h47) (Y6 h50 h51 h54 h55 h56 h61) h62) ?_
   obtain rfl := Zi H60
   exact ZE0
  ·refine runR_condF (by rfl) c27 ?_
   refine Z1 c27 ?_
   refine zsq (zsq ?_)
   refine ZT 1 ?_
   refine Z1 c27 ?_
   obtain ⟨e_2, E63, H64⟩ := zbi H28
   refine zjn (α := { y : Bool // e_2 = y }) (fun | ⟨t47, _⟩ => ⟨upd 0 (.v (.int .i64 t0)) (upd 3 (.v (.string x)) (upd 4 (.v (.string x2)) (upd 5 (.v (.string x3)) (upd 28 (.v (.int .i64 (Int.tmod (IntKind.i64.wrap (an (sh t0 17) 255 : Int)) 12))) (upd 47 (.v (.bool t47)) noFr))))), noHp, 0⟩) ?_ ?_
   ·refine ZT 1 ?_
    refine Z0 ?_
    rcases zit E63 with ⟨c65, H66⟩ | ⟨c65, H66⟩
    ·refine Z1 c65 ?_
     obtain rfl := Zi H66
     exact ⟨⟨true, rfl⟩, ZR []⟩
    ·refine Z1 c65 ?_
     rcases zit H66 with ⟨c67, H68⟩ | ⟨c67, H68⟩
     ·refine Z1 (Y2 c65 c67) ?_
      obtain rfl := Zi H68
      exact ⟨⟨true, rfl⟩, ZR []⟩
     ·refine Z1 (Y2 c65 c67) ?_
      rcases zit H68 with ⟨c69, H70⟩ | ⟨c69, H70⟩
      ·refine Z1 (Y3 c65 c67 c69) ?_
       obtain rfl := Zi H70
       exact ⟨⟨true, rfl⟩, ZR []⟩
      ·refine Z1 (Y3 c65 c67 c69) ?_
       obtain rfl := Zi H70
       exact ⟨⟨((Int.tmod (IntKind.i64.wrap (an (sh t0 17) 255 : Int)) 12) == 7), rfl⟩, ZR []⟩
   ·rintro ⟨t47, he164⟩
    obtain rfl := he164.symm
    try dsimp only at H64
    refine ZT 3 ?_
    refine Z0 ?_
    rcases zit H64 with ⟨c71, H72⟩ | ⟨c71, H72⟩
    ·obtain ⟨s8, b73, H74⟩ := zbi H72
     obtain ⟨h75, h76⟩ := zct b73
     have h77 : 5 + x3.size ≤ maxLen := h75
     obtain ⟨s9, b78, H79⟩ := zbi H74
     obtain ⟨h80, h81⟩ := zct b78
     have h82 : s8.size + 2 ≤ maxLen := h80
     obtain ⟨s10, b83, H84⟩ := zbi H79
     obtain ⟨h85, h86⟩ := zct b83
     obtain ⟨s11, b87, H88⟩ := zbi H84
     obtain ⟨h89, h90⟩ := zct b87
     have h91 : s10.size + 1 ≤ maxLen := h89
     obtain ⟨s12, b92, H93⟩ := zbi H88
     obtain ⟨h94, h95⟩ := zct b92
     obtain ⟨s13, b96, H97⟩ := zbi H93
     obtain ⟨h98, h99⟩ := zct b96
     have h100 : s12.size + 1 ≤ maxLen := h98
     obtain ⟨t63, b101, H102⟩ := zbi H97
     refine Z1 (Y3 (Y6 c71 h75 h76 h77 h80 h81) (Y6 h82 h85 h86 h89 h90 h91) (Y5 h94 h95 h98 h99 h100)) ?_
     refine ZC0 (law17_Acl_ok b101) ?_
     obtain ⟨s14, b103, H104⟩ := zbi H102
     obtain ⟨h105, h106⟩ := zct b103
     refine Z1 (Y4 (Y6 c71 h75 h76 h77 h80 h81) (Y6 h82 h85 h86 h89 h90 h91) (Y6 h94 h95 h98 h99 h100 h105) h106) ?_
     obtain rfl := Zi H104
     exact ZE0
    ·refine Z1 c71 ?_
     rcases zit H72 with ⟨c107, H108⟩ | ⟨c107, H108⟩
     ·obtain ⟨s15, b109, H110⟩ := zbi H108
      obtain ⟨h111, h112⟩ := zct b109
      have h113 : 8 + x.size ≤ maxLen := h111
      refine Z1 (Y5 c71 c107 h111 h112 h113) ?_
      obtain rfl := Zi H110
      exact ZE0
     ·refine Z1 (Y2 c71 c107) ?_
      rcases zit H108 with ⟨c114, H115⟩ | ⟨c114, H115⟩
      ·refine Z1 (Y3 c71 c107 c114) ?_
       obtain rfl := Zi H115
       exact ZE0
      ·refine Z1 (Y3 c71 c107 c114) ?_
       rcases zit H115 with ⟨c116, H117⟩ | ⟨c116, H117⟩
       ·obtain ⟨x4, b118, H119⟩ := zbi H117
        obtain ⟨h120, h121⟩ := zix b118
        try simp only [Int.reduceToNat, Int.toNat_natCast] at h121
        have h122 := map_at eS h121
        simp only [List.map_cons, List.map_nil, eS] at h122
        have h123 := at_lt h121
        simp only [List.length_cons, List.length_nil, Nat.reduceAdd] at h123
        obtain ⟨s16, b124, H125⟩ := zbi H119
        obtain ⟨h126, h127⟩ := zct b124
        have h128 : 5 + x4.size ≤ maxLen := h126
        obtain ⟨s17, b129, H130⟩ := zbi H125
        obtain ⟨h131, h132⟩ := zct b129
        have h133 : s16.size + 1 ≤ maxLen := h131
        obtain ⟨s18, b134, H135⟩ := zbi H130
        obtain ⟨h136, h137⟩ := zct b134
        obtain ⟨s19, b138, H139⟩ := zbi H135
        obtain ⟨h140, h141⟩ := zct b138
        have h142 : s18.size + 1 ≤ maxLen := h140
        obtain ⟨s20, b143, H144⟩ := zbi H139
        obtain ⟨h145, h146⟩ := zct b143
        obtain ⟨s21, b147, H148⟩ := zbi H144
        obtain ⟨h149, h150⟩ := zct b147
        have h151 : s20.size + 1 ≤ maxLen := h149
        obtain ⟨t93, b152, H153⟩ := zbi H148
        refine Z1 (Y4 (Y6 c71 c107 c114 c116 (zno .i64 h120) h122) (Y6 h123 h126 h127 h128 h131 h132) (Y6 h133 h136 h137 h140 h141 h142) (Y5 h145 h146 h149 h150 h151)) ?_
        refine ZD0 (law17_Acl_ok b152) ?_
        obtain ⟨s22, b154, H155⟩ := zbi H153
        obtain ⟨h156, h157⟩ := zct b154
        refine Z1 (Y5 (Y6 c71 c107 c114 c116 (zno .i64 h120) h122) (Y6 h123 h126 h127 h128 h131 h132) (Y6 h133 h136 h137 h140 h141 h142) (Y6 h145 h146 h149 h150 h151 h156) h157) ?_
        refine Rd_endF (by rfl) ?_
        refine Z1 (Y5 (Y6 c71 c107 c114 c116 (zno .i64 h120) h122) (Y6 h123 h126 h127 h128 h131 h132) (Y6 h133 h136 h137 h140 h141 h142) (Y6 h145 h146 h149 h150 h151 h156) h157) ?_
        obtain rfl := Zi H155
        exact ZE0
       ·obtain ⟨x5, b158, H159⟩ := zbi H117
        obtain ⟨h160, h161⟩ := zix b158
        try simp only [Int.reduceToNat, Int.toNat_natCast] at h161
        have h162 := map_at eS h161
        simp only [List.map_cons, List.map_nil, eS] at h162
        have h163 := at_lt h161
        simp only [List.length_cons, List.length_nil, Nat.reduceAdd] at h163
        refine Z1 (Y2 (Y6 c71 c107 c114 c116 (zno .i64 h160) h162) h163) ?_
        obtain rfl := Zi H159
        exact ZE0
def law18_Valid_L1 (n : Nat) (l : List Int) : Nat → (List GFile × Int) → Option (List GFile)
 | 0, _ => none
 | c + 1, (f, i) =>
  (
   (if (decide (i < (l.length : Int))) then
    some (decide (i < 20))
   else
    some false) : Option (Bool)).bind fun t342 =>
  (if t342 then
   (idx l i).bind fun x3 =>
   (law17_Line n x3).bind fun t422 =>
   (ref17_Parse n t422).bind fun t432 =>
   (if (t432.2.2 != 0) then
    law18_Valid_L1 n l c (f, (IntKind.i64.wrap (i + 1)))
   else
    (app [] f).bind fun _ =>
    (app f t432.1).bind fun l5 =>
    (ref17_Valid n l5).bind fun t562 =>
    (if (t562.2 == 0) then
     law18_Valid_L1 n l c (l5, (IntKind.i64.wrap (i + 1)))
    else
     law18_Valid_L1 n l c (f, (IntKind.i64.wrap (i + 1)))))
  else
   some f)
def law18_Valid (n : Nat) (l : List Int) : Option (List GFile) :=
 (
  (if (decide (0 < (l.length : Int))) then
   (idx l 0).bind fun x =>
   some x
  else
   some 388058199295) : Option (Int)).bind fun n_ =>
 (law17_Base n n_).bind fun t22 =>
 (ref17_Parse n t22).bind fun t23 =>
 (
  law18_Valid_L1 n l n (t23.1, 1) : Option (List GFile)).bind fun f3 =>
 some f3
theorem law18_Valid_ok {n : Nat} {l : List Int} {r : List GFile} (H : law18_Valid n l = some r) : PureOK Tryz.prog 9 [D.sl (List.map eI l)] (D.sl (List.map eGFile r)) true := by
 unfold law18_Valid at H
 refine ZP tab_ok fol (rs := #[.tmp 2]) Tryz.func9 ?_
 refine zsq (ZT 1 ?_)
 refine Z0 ?_
 refine zsq (ZT 1 ?_)
 refine Z0 ?_
 refine zsq (zsq ?_)
 refine ZT 1 ?_
 refine Z0 ?_
 obtain ⟨e_, E1, H2⟩ := zbi H
 refine zjn (α := { y : Int // e_ = y }) (fun | ⟨n_, _⟩ => ⟨upd 0 (.d (.sl (List.map eI l)) true) (upd 3 (.v (.int .i64 n_)) noFr), noHp, 0⟩) ?_ ?_
 ·refine ZT 1 ?_
  refine Z0 ?_
  rcases zit E1 with ⟨c3, H4⟩ | ⟨c3, H4⟩
  ·obtain ⟨x, b5, H6⟩ := zbi H4
   obtain ⟨h7, h8⟩ := zix b5
   try simp only [Int.reduceToNat] at h8
   have h9 := map_at eI h8
   refine Z1 (Y3 c3 (zno .i64 h7) h9) ?_
   obtain rfl := Zi H6
   exact ⟨⟨x, rfl⟩, ZR []⟩
  ·refine Z1 c3 ?_
   obtain rfl := Zi H4
   exact ⟨⟨388058199295, rfl⟩, ZR []⟩
 ·rintro ⟨n_, he91⟩
  obtain rfl := he91.symm
  try dsimp only at H2
  refine zsq (ZT 1 ?_)
  obtain ⟨t22, b11, H12⟩ := zbi H2
  refine Z0 ?_
  refine ZC0 (law17_Base_ok b11) ?_
  obtain ⟨t23, b13, H14⟩ := zbi H12
  refine Z0 ?_
  refine ZC0 (ref17_Parse_ok b13) ?_
  refine Z0 ?_
  refine zsq (zsq ?_)
  refine ZT 1 ?_
  refine Z0 ?_
  obtain ⟨e_2, E15, H16⟩ := zbi H14
  refine zjn (α := { y : List GFile // e_2 = y }) (fun | ⟨f3, _⟩ => ⟨upd 4 (.d (.sl (List.map eGFile f3)) false) noFr, noHp, 0⟩) ?_ ?_
  ·refine zbk ?_
   refine zlp (α := { q : Nat × (List GFile × Int) // law18_Valid_L1 n l q.1 q.2 = some e_2 }) (fun | ⟨⟨c, ⟨f, i⟩⟩, _⟩ => ⟨upd 0 (.d (.sl (List.map eI l)) true) (upd 4 (.d (.sl (List.map eGFile f)) false) (upd 7 (.v (.int .i64 i)) noFr)), noHp, 0⟩) (fun q => q.1.1) ⟨(n, (t23.1, 1)), E15⟩ ?_ ?_
   ·exact ZR []
   ·rintro ⟨⟨c, ⟨f, i⟩⟩, L17⟩
    rcases c with _ | c
    ·exact Zx L17
    ·unfold law18_Valid_L1 at L17
     try dsimp only at L17
     refine zsq (zsq ?_)
     obtain ⟨e_4, E54, H55⟩ := zbi L17
     refine zjn (α := { y : Bool // e_4 = y }) (fun | ⟨t342, _⟩ => ⟨upd 0 (.d (.sl (List.map eI l)) true) (upd 4 (.d (.sl (List.map eGFile f)) false) (upd 7 (.v (.int .i64 i)) (upd 34 (.v (.bool t342)) noFr))), noHp, 0⟩) ?_ ?_
     ·refine ZT 1 ?_
      refine Z0 ?_
      rcases zit E54 with ⟨c56, H57⟩ | ⟨c56, H57⟩
      ·refine Z1 c56 ?_
       obtain rfl := Zi H57
       exact ⟨⟨(decide (i < 20)), rfl⟩, ZR []⟩
      ·refine Z1 c56 ?_
       obtain rfl := Zi H57
       exact ⟨⟨false, rfl⟩, ZR []⟩
     ·rintro ⟨t342, he89⟩
      obtain rfl := he89.symm
      try dsimp only at H55
      refine ZT 2 ?_
      refine Z0 ?_
      rcases zit H55 with ⟨c58, H59⟩ | ⟨c58, H59⟩
      ·obtain ⟨x3, b60, H61⟩ := zbi H59
       obtain ⟨h62, h63⟩ := zix b60
       try simp only [Int.reduceToNat, Int.toNat_natCast] at h63
       have h64 := map_at eI h63
       obtain ⟨t422, b66, H67⟩ := zbi H61
       refine Z1 (Y3 c58 (zno .i64 h62) h64) ?_
       refine ZC0 (law17_Line_ok b66) ?_
       obtain ⟨t432, b68, H69⟩ := zbi H67
       refine Z1 (Y3 c58 (zno .i64 h62) h64) ?_
       refine ZC0 (ref17_Parse_ok b68) ?_
       refine Z1 (Y3 c58 (zno .i64 h62) h64) ?_
       rcases zit H69 with ⟨c70, H71⟩ | ⟨c70, H71⟩
       ·refine Z1 (Y4 c58 (zno .i64 h62) h64 c70) ?_
        exact ⟨⟨(c, (f, (IntKind.i64.wrap (i + 1)))), H71⟩, ZR [], Nat.lt_succ_self _⟩
       ·obtain ⟨l4, b72, H73⟩ := zbi H71
        obtain ⟨h74, h75⟩ := app_inv b72
        have h75 : f = l4 := h75
        subst h75
        have h74 : f.length ≤ 4294967296 := by have := h74; simpa using this
        obtain ⟨l5, b78, H79⟩ := zbi H73
        obtain ⟨h80, h81⟩ := app_inv b78
        have h80 : f.length + t432.1.length ≤ 4294967296 := h80
        have h82 : List.map eGFile f ++ List.map eGFile t432.1 = List.map eGFile l5 := app_map eGFile h81
        have h83 : f.length + t432.1.length = l5.length := app_len h81
        have h84 : l5.length ≤ 4294967296 := by omega
        obtain ⟨t562, b85, H86⟩ := zbi H79
        refine Z1 (Y2 (Y6 c58 (zno .i64 h62) h64 c70 (chk_map (n := 7) (f := eGFile) (fun _ => rfl) f) h74) (Y5 (chk_map (n := 7) (f := eGFile) (fun _ => rfl) t432.1) h80 h82 h83 h84)) ?_
        refine ZC1 (Y2 (Y6 c58 (zno .i64 h62) h64 c70 (chk_map (n := 7) (f := eGFile) (fun _ => rfl) f) h74) (Y5 (chk_map (n := 7) (f := eGFile) (fun _ => rfl) t432.1) h80 h82 h83 h84)) (ref17_Valid_ok b85) ?_
        refine Z1 (Y2 (Y6 c58 (zno .i64 h62) h64 c70 (chk_map (n := 7) (f := eGFile) (fun _ => rfl) f) h74) (Y5 (chk_map (n := 7) (f := eGFile) (fun _ => rfl) t432.1) h80 h82 h83 h84)) ?_
        rcases zit H86 with ⟨c87, H88⟩ | ⟨c87, H88⟩
        ·refine Z1 (Y2 (Y6 c58 (zno .i64 h62) h64 c70 (chk_map (n := 7) (f := eGFile) (fun _ => rfl) f) h74) (Y6 (chk_map (n := 7) (f := eGFile) (fun _ => rfl) t432.1) h80 h82 h83 h84 c87)) ?_
         exact ⟨⟨(c, (l5, (IntKind.i64.wrap (i + 1)))), H88⟩, WeakR.trans (m := ⟨upd 0 (.d (.sl (List.map eI l)) true) (upd 4 (.d (.sl (List.map eGFile l5)) false) (upd 7 (.v (.int .i64 (IntKind.i64.wrap (i + 1)))) (noFr))), noHp, 35⟩) (ZR []) (dat_mk (Nat.le_refl _) (df_upd (dv_same (by rfl)) (df_upd (dv_c (by rfl) (dc_so (by rfl) (by first | rfl | simp) (by rfl) (fun h => h))) (df_upd (dv_same (by rfl)) (df_no _)))) dh_no), Nat.lt_succ_self _⟩
        ·refine Z1 (Y2 (Y6 c58 (zno .i64 h62) h64 c70 (chk_map (n := 7) (f := eGFile) (fun _ => rfl) f) h74) (Y6 (chk_map (n := 7) (f := eGFile) (fun _ => rfl) t432.1) h80 h82 h83 h84 c87)) ?_
         exact ⟨⟨(c, (f, (IntKind.i64.wrap (i + 1)))), H88⟩, ZR [], Nat.lt_succ_self _⟩
      ·refine Z1 c58 ?_
       obtain rfl := Zi H59
       exact ⟨⟨f, rfl⟩, ZR []⟩
  ·rintro ⟨f3, he90⟩
   obtain rfl := he90.symm
   try dsimp only at H16
   refine ZT 1 ?_
   refine Z0 ?_
   obtain rfl := Zi H16
   exact ZE0
def mask_IsFile (_ : Nat) (f : GFile) : Option Bool :=
 (if (f.kind == 3) then
  some true
 else
  some (f.kind == 4))
theorem mask_IsFile_ok {n : Nat} {f : GFile} {r : Bool} (H : mask_IsFile n f = some r) : PureOK Tryz.prog 57 [D.ag (eGFile f)] (D.v (.bool r)) true := by
 unfold mask_IsFile at H
 refine ZP tab_ok fol (rs := #[.tmp 2]) Tryz.func57 ?_
 refine ZT 1 ?_
 refine Z0 ?_
 rcases zit H with ⟨c1, H2⟩ | ⟨c1, H2⟩
 ·refine Z1 c1 ?_
  obtain rfl := Zi H2
  exact ZE0
 ·refine Z1 c1 ?_
  obtain rfl := Zi H2
  exact ZE0
def atom_first (_ : Nat) (c2 : Int) : Option Bool :=
 (if (decide (97 ≤ c2)) then
  (if (decide (c2 ≤ 122)) then
   some true
  else
   (if (decide (48 ≤ c2)) then
    some (decide (c2 ≤ 57))
   else
    some false))
 else
  (if (decide (48 ≤ c2)) then
   some (decide (c2 ≤ 57))
  else
   some false))
theorem atom_first_ok {n : Nat} {c2 : Int} {r : Bool} (H : atom_first n c2 = some r) : PureOK Tryz.prog 74 [D.v (.int .u8 c2)] (D.v (.bool r)) true := by
 unfold atom_first at H
 refine ZP tab_ok fol (rs := #[.tmp 2]) Tryz.func74 ?_
 refine ZT 1 ?_
 refine Z0 ?_
 rcases zit H with ⟨c1, H2⟩ | ⟨c1, H2⟩
 ·refine Z1 c1 ?_
  rcases zit H2 with ⟨c3, H4⟩ | ⟨c3, H4⟩
  ·refine Z1 (Y2 c1 c3) ?_
   obtain rfl := Zi H4
   exact ZE0
  ·refine Z1 (Y2 c1 c3) ?_
   rcases zit H4 with ⟨c5, H6⟩ | ⟨c5, H6⟩
   ·refine Z1 (Y3 c1 c3 c5) ?_
    obtain rfl := Zi H6
    exact ZE0
   ·refine Z1 (Y3 c1 c3 c5) ?_
    obtain rfl := Zi H6
    exact ZE0
 ·refine Z1 c1 ?_
  rcases zit H2 with ⟨c7, H8⟩ | ⟨c7, H8⟩
  ·refine Z1 (Y2 c1 c7) ?_
   obtain rfl := Zi H8
   exact ZE0
  ·refine Z1 (Y2 c1 c7) ?_
   obtain rfl := Zi H8
   exact ZE0
def atom_plain (n : Nat) (c2 : Int) : Option Bool :=
 (atom_first n c2).bind fun t4 =>
 (if t4 then
  some true
 else
  (if (c2 == 95) then
   some true
  else
   (if (c2 == 45) then
    some true
   else
    some (c2 == 46))))
theorem atom_plain_ok {n : Nat} {c2 : Int} {r : Bool} (H : atom_plain n c2 = some r) : PureOK Tryz.prog 75 [D.v (.int .u8 c2)] (D.v (.bool r)) true := by
 unfold atom_plain at H
 refine ZP tab_ok fol (rs := #[.tmp 2]) Tryz.func75 ?_
 refine ZT 1 ?_
 obtain ⟨t4, b1, H2⟩ := zbi H
 refine Z0 ?_
 refine ZC0 (atom_first_ok b1) ?_
 refine Z0 ?_
 rcases zit H2 with ⟨c3, H4⟩ | ⟨c3, H4⟩
 ·refine Z1 c3 ?_
  obtain rfl := Zi H4
  exact ZE0
 ·refine Z1 c3 ?_
  rcases zit H4 with ⟨c5, H6⟩ | ⟨c5, H6⟩
  ·refine Z1 (Y2 c3 c5) ?_
   obtain rfl := Zi H6
   exact ZE0
  ·refine Z1 (Y2 c3 c5) ?_
   rcases zit H6 with ⟨c7, H8⟩ | ⟨c7, H8⟩
   ·refine Z1 (Y3 c3 c5 c7) ?_
    obtain rfl := Zi H8
    exact ZE0
   ·refine Z1 (Y3 c3 c5 c7) ?_
    obtain rfl := Zi H8
    exact ZE0
def atom_Name_L1 (n : Nat) (s : ByteArray) : Nat → Int → Option ((Unit) ⊕ Bool)
 | 0, _ => none
 | c + 1, t19 =>
  (if (decide (t19 < (s.size : Int))) then
   (bidx s t19).bind fun ch3 =>
   (atom_plain n ch3).bind fun t252 =>
   (if t252 then
    atom_Name_L1 n s c (IntKind.i64.wrap (t19 + 1))
   else
    some (.inr false))
  else
   some (.inl ()))
def atom_Name (n : Nat) (s : ByteArray) : Option Bool :=
 (
  (if (s.toList == ({ data := #[] } : ByteArray).toList) then
   some true
  else
   (if (decide (30 < (s.size : Int))) then
    some true
   else
    (bidx s 0).bind fun ch =>
    (atom_first n ch).bind fun t14 =>
    some (!t14))) : Option (Bool)).bind fun t16 =>
 (if t16 then
  some false
 else
  (
   atom_Name_L1 n s n 0 : Option ((Unit) ⊕ Bool)).bind fun
   | .inl _ =>
    some true
   | .inr r => some r)
theorem atom_Name_ok {n : Nat} {s : ByteArray} {r : Bool} (H : atom_Name n s = some r) : PureOK Tryz.prog 43 [D.v (.string s)] (D.v (.bool r)) true := by
 unfold atom_Name at H
 refine ZP tab_ok fol (rs := #[.tmp 2]) Tryz.func43 ?_
 refine zsq (ZT 1 ?_)
 refine Z0 ?_
 refine zsq (zsq ?_)
 obtain ⟨e_, E1, H2⟩ := zbi H
 refine zjn (α := { y : Bool // e_ = y }) (fun | ⟨t16, _⟩ => ⟨upd 0 (.v (.string s)) (upd 16 (.v (.bool t16)) noFr), noHp, 0⟩) ?_ ?_
 ·refine ZT 1 ?_
  refine Z0 ?_
  rcases zit E1 with ⟨c3, H4⟩ | ⟨c3, H4⟩
  ·refine Z1 c3 ?_
   obtain rfl := Zi H4
   exact ⟨⟨true, rfl⟩, ZR []⟩
  ·refine Z1 c3 ?_
   rcases zit H4 with ⟨c5, H6⟩ | ⟨c5, H6⟩
   ·refine Z1 (Y2 c3 c5) ?_
    obtain rfl := Zi H6
    exact ⟨⟨true, rfl⟩, ZR []⟩
   ·obtain ⟨ch, b7, H8⟩ := zbi H6
    obtain ⟨h9, by_, h10, h11⟩ := zbx b7
    try simp only [Int.reduceToNat] at h10
    obtain ⟨t14, b12, H13⟩ := zbi H8
    refine Z1 (Y5 c3 c5 (zno .i64 h9) h10 h11.symm) ?_
    refine ZC0 (atom_first_ok b12) ?_
    refine Z1 (Y5 c3 c5 (zno .i64 h9) h10 h11.symm) ?_
    obtain rfl := Zi H13
    exact ⟨⟨(!t14), rfl⟩, ZR []⟩
 ·rintro ⟨t16, he42⟩
  obtain rfl := he42.symm
  try dsimp only at H2
  refine ZT 1 ?_
  refine Z0 ?_
  rcases zit H2 with ⟨c14, H15⟩ | ⟨c14, H15⟩
  ·refine Z1 c14 ?_
   obtain rfl := Zi H15
   exact ZE0
  ·refine Z1 c14 ?_
   refine zsq (zsq ?_)
   refine ZT 1 ?_
   refine Z1 c14 ?_
   obtain ⟨e_2, E16, H17⟩ := zbi H15
   refine zjn (α := { y : Unit // e_2 = .inl y }) (fun | ⟨_, _⟩ => ⟨noFr, noHp, 0⟩) ?_ ?_
   ·refine zbk ?_
    refine zlp (α := { q : Nat × Int // atom_Name_L1 n s q.1 q.2 = some e_2 }) (fun | ⟨⟨c, t19⟩, _⟩ => ⟨upd 0 (.v (.string s)) (upd 18 (.v (.int .i64 (s.size : Int))) (upd 19 (.v (.int .i64 t19)) noFr)), noHp, 0⟩) (fun q => q.1.1) ⟨(n, 0), E16⟩ ?_ ?_
    ·exact ZR []
    ·rintro ⟨⟨c, t19⟩, L18⟩
     rcases c with _ | c
     ·exact Zx L18
     ·unfold atom_Name_L1 at L18
      try dsimp only at L18
      refine ZT 1 ?_
      refine Z0 ?_
      rcases zit L18 with ⟨c30, H31⟩ | ⟨c30, H31⟩
      ·obtain ⟨ch3, b32, H33⟩ := zbi H31
       obtain ⟨h34, by_3, h35, h36⟩ := zbx b32
       try simp only [Int.reduceToNat, Int.toNat_natCast] at h35
       obtain ⟨t252, b37, H38⟩ := zbi H33
       refine Z1 (Y4 c30 (zno .i64 h34) h35 h36.symm) ?_
       refine ZC0 (atom_plain_ok b37) ?_
       refine Z1 (Y4 c30 (zno .i64 h34) h35 h36.symm) ?_
       rcases zit H38 with ⟨c39, H40⟩ | ⟨c39, H40⟩
       ·refine Z1 (Y5 c30 (zno .i64 h34) h35 h36.symm c39) ?_
        exact ⟨⟨(c, (IntKind.i64.wrap (t19 + 1))), H40⟩, ZR [], Nat.lt_succ_self _⟩
       ·refine Z1 (Y5 c30 (zno .i64 h34) h35 h36.symm c39) ?_
        obtain rfl := Zi H40
        obtain rfl := Zi H17
        exact ZE0
      ·refine Z1 c30 ?_
       obtain rfl := Zi H31
       exact ⟨⟨(), rfl⟩, ZR []⟩
   ·rintro ⟨_, he41⟩
    obtain rfl := he41.symm
    try dsimp only at H17
    refine ZT 1 ?_
    refine Z0 ?_
    obtain rfl := Zi H17
    exact ZE0
def mask_good (n : Nat) (x : GEntry) : Option Bool :=
 (
  (if (x.kind == 2) then
   some true
  else
   some (x.kind == 4)) : Option (Bool)).bind fun t14 =>
 (
  (if t14 then
   (atom_Name n x.name).bind fun t17 =>
   some t17
  else
   some (x.name.toList == ({ data := #[] } : ByteArray).toList)) : Option (Bool)).bind fun ok =>
 (if ok then
  (if (decide (1 ≤ x.kind)) then
   (if (decide (x.kind ≤ 6)) then
    (if (decide (0 ≤ x.bits)) then
     some (decide (x.bits ≤ 7))
    else
     some false)
   else
    some false)
  else
   some false)
 else
  some false)
theorem mask_good_ok {n : Nat} {x : GEntry} {r : Bool} (H : mask_good n x = some r) : PureOK Tryz.prog 63 [D.ag (eGEntry x)] (D.v (.bool r)) true := by
 unfold mask_good at H
 refine ZP tab_ok fol (rs := #[.tmp 2]) Tryz.func63 ?_
 refine zsq (ZT 1 ?_)
 refine Z0 ?_
 refine zsq (ZT 1 ?_)
 refine Z0 ?_
 refine zsq (zsq ?_)
 obtain ⟨e_, E1, H2⟩ := zbi H
 refine zjn (α := { y : Bool // e_ = y }) (fun | ⟨t14, _⟩ => ⟨upd 1 (.pt 0 0) (upd 3 (.v (.bool (x.name.toList == ({ data := #[] } : ByteArray).toList))) (upd 14 (.v (.bool t14)) noFr)), upd 0 (some (.bx [.v (.int .i64 x.kind), .v (.bool x.default), .v (.string x.name), .v (.int .i64 x.bits)])) noHp, 1⟩) ?_ ?_
 ·refine ZT 1 ?_
  refine Z0 ?_
  rcases zit E1 with ⟨c3, H4⟩ | ⟨c3, H4⟩
  ·refine Z1 c3 ?_
   obtain rfl := Zi H4
   exact ⟨⟨true, rfl⟩, ZR [(0, 0)]⟩
  ·refine Z1 c3 ?_
   obtain rfl := Zi H4
   exact ⟨⟨(x.kind == 4), rfl⟩, ZR [(0, 0)]⟩
 ·rintro ⟨t14, he20⟩
  obtain rfl := he20.symm
  try dsimp only at H2
  obtain ⟨e_2, E5, H6⟩ := zbi H2
  refine zjn (α := { y : Bool // e_2 = y }) (fun | ⟨ok, _⟩ => ⟨upd 1 (.pt 0 0) (upd 3 (.v (.bool ok)) noFr), upd 0 (some (.bx [.v (.int .i64 x.kind), .v (.bool x.default), .v (.string x.name), .v (.int .i64 x.bits)])) noHp, 1⟩) ?_ ?_
  ·refine ZT 1 ?_
   refine Z0 ?_
   rcases zit E5 with ⟨c7, H8⟩ | ⟨c7, H8⟩
   ·obtain ⟨t17, b9, H10⟩ := zbi H8
    refine Z1 c7 ?_
    refine ZC0 (atom_Name_ok b9) ?_
    refine Z1 c7 ?_
    obtain rfl := Zi H10
    exact ⟨⟨t17, rfl⟩, ZR [(0, 0)]⟩
   ·refine Z1 c7 ?_
    obtain rfl := Zi H8
    exact ⟨⟨(x.name.toList == ({ data := #[] } : ByteArray).toList), rfl⟩, ZR [(0, 0)]⟩
  ·rintro ⟨ok, he19⟩
   obtain rfl := he19.symm
   try dsimp only at H6
   refine ZT 1 ?_
   refine Z0 ?_
   rcases zit H6 with ⟨c11, H12⟩ | ⟨c11, H12⟩
   ·refine Z1 c11 ?_
    rcases zit H12 with ⟨c13, H14⟩ | ⟨c13, H14⟩
    ·refine Z1 (Y2 c11 c13) ?_
     rcases zit H14 with ⟨c15, H16⟩ | ⟨c15, H16⟩
     ·refine Z1 (Y3 c11 c13 c15) ?_
      rcases zit H16 with ⟨c17, H18⟩ | ⟨c17, H18⟩
      ·refine Z1 (Y4 c11 c13 c15 c17) ?_
       obtain rfl := Zi H18
       exact ZE0
      ·refine Z1 (Y4 c11 c13 c15 c17) ?_
       obtain rfl := Zi H18
       exact ZE0
     ·refine Z1 (Y3 c11 c13 c15) ?_
      obtain rfl := Zi H16
      exact ZE0
    ·refine Z1 (Y2 c11 c13) ?_
     obtain rfl := Zi H14
     exact ZE0
   ·refine Z1 c11 ?_
    obtain rfl := Zi H12
    exact ZE0
def mask_Find_L1 (n : Nat) (l : List GEntry) (byDefault : Bool) (kind : Int) (name : ByteArray) : Nat → Int → Option ((Unit) ⊕ (GEntry × Bool))
 | 0, _ => none
 | c + 1, t14 =>
  (if (decide (t14 < (l.length : Int))) then
   (idx l t14).bind fun x2 =>
   (if (x2.default == byDefault) then
    (if (x2.kind == kind) then
     (if (x2.name.toList == name.toList) then
      some (.inr (x2, true))
     else
      mask_Find_L1 n l byDefault kind name c (IntKind.i64.wrap (t14 + 1)))
    else
     mask_Find_L1 n l byDefault kind name c (IntKind.i64.wrap (t14 + 1)))
   else
    mask_Find_L1 n l byDefault kind name c (IntKind.i64.wrap (t14 + 1)))
  else
   some (.inl ()))
def mask_Find_L1_f (_ : Nat) (_ : List GEntry) (byDefault : Bool) (kind : Int) (name : ByteArray) (st : Unit) (x2 : GEntry) (k : Unit → Option ((Unit) ⊕ (GEntry × Bool))) : Option ((Unit) ⊕ (GEntry × Bool)) :=
 match st with
 | _ =>
  (if (x2.default == byDefault) then
   (if (x2.kind == kind) then
    (if (x2.name.toList == name.toList) then
     some (.inr (x2, true))
    else
     k ())
   else
    k ())
  else
   k ())
def mask_Find_L1_e (_ : Nat) (_ : List GEntry) (_ : Bool) (_ : Int) (_ : ByteArray) (st : Unit) : Option ((Unit) ⊕ (GEntry × Bool)) :=
 match st with
 | _ => some (.inl ())
theorem mask_Find_L1_list (n : Nat) (l : List GEntry) (byDefault : Bool) (kind : Int) (name : ByteArray) (hx : l.length < 4611686018427387904) (c : Nat) (st : Unit) (ix : Nat) (hi : ix ≤ l.length) (hc : l.length - ix < c) : mask_Find_L1 n l byDefault kind name c (match st, (ix : Int) with | _, ix => ix) = foldK (mask_Find_L1_f n l byDefault kind name) (mask_Find_L1_e n l byDefault kind name) (l.drop ix) st :=
 loop_list (fun c st ix => mask_Find_L1 n l byDefault kind name c (match st, ix with | _, ix => ix)) l (mask_Find_L1_f n l byDefault kind name) (mask_Find_L1_e n l byDefault kind name) (fun _ _ _ => rfl) hx c st ix hi hc
def mask_Find (n : Nat) (l : List GEntry) (byDefault : Bool) (kind : Int) (name : ByteArray) : Option (GEntry × Bool) :=
 (
  mask_Find_L1 n l byDefault kind name n 0 : Option ((Unit) ⊕ (GEntry × Bool))).bind fun
  | .inl _ =>
   some ((⟨0, false, ByteArray.empty, 0⟩ : GEntry), false)
  | .inr r => some r
theorem mask_Find_ok {n : Nat} {l : List GEntry} {byDefault : Bool} {kind : Int} {name : ByteArray} {r : GEntry × Bool} (H : mask_Find n l byDefault kind name = some r) : PureOK Tryz.prog 31 [D.sl (List.map eGEntry l), D.v (.bool byDefault), D.v (.int .i64 kind), D.v (.string name)] (D.tu [D.ag (eGEntry r.1), D.v (.bool r.2)]) true := by
 unfold mask_Find at H
 refine ZP tab_ok fol (rs := #[.cell 8 44, .tmp 9]) Tryz.func31 ?_
 refine zsq (ZT 1 ?_)
 refine Z0 ?_
 refine zsq (zsq ?_)
 refine ZT 1 ?_
 refine Z0 ?_
 obtain ⟨e_, E1, H2⟩ := zbi H
 refine zjn (α := { y : Unit // e_ = .inl y }) (fun | ⟨_, _⟩ => ⟨upd 8 (.pt 0 0) noFr, upd 0 (some (.bx [.v (.int .i64 0), .v (.bool false), .v (.string ByteArray.empty), .v (.int .i64 0)])) noHp, 1⟩) ?_ ?_
 ·refine zbk ?_
  refine zlp (α := { q : Nat × Int // mask_Find_L1 n l byDefault kind name q.1 q.2 = some e_ }) (fun | ⟨⟨c, t14⟩, _⟩ => ⟨upd 1 (.v (.bool byDefault)) (upd 2 (.v (.int .i64 kind)) (upd 3 (.v (.string name)) (upd 8 (.pt 0 0) (upd 12 (.d (.sl (List.map eGEntry l)) true) (upd 13 (.v (.int .i64 (l.length : Int))) (upd 14 (.v (.int .i64 t14)) noFr)))))), upd 0 (some (.bx [.v (.int .i64 0), .v (.bool false), .v (.string ByteArray.empty), .v (.int .i64 0)])) noHp, 1⟩) (fun q => q.1.1) ⟨(n, 0), E1⟩ ?_ ?_
  ·exact ZR [(0, 0)]
  ·rintro ⟨⟨c, t14⟩, L3⟩
   rcases c with _ | c
   ·exact Zx L3
   ·unfold mask_Find_L1 at L3
    try dsimp only at L3
    refine ZT 1 ?_
    refine Z0 ?_
    rcases zit L3 with ⟨c18, H19⟩ | ⟨c18, H19⟩
    ·obtain ⟨x2, b20, H21⟩ := zbi H19
     obtain ⟨h22, h23⟩ := zix b20
     try simp only [Int.reduceToNat, Int.toNat_natCast] at h23
     have h24 := map_at eGEntry h23
     refine Z1 (Y3 c18 (zno .i64 h22) h24) ?_
     rcases zit H21 with ⟨c26, H27⟩ | ⟨c26, H27⟩
     ·refine Z1 (Y4 c18 (zno .i64 h22) h24 c26) ?_
      rcases zit H27 with ⟨c28, H29⟩ | ⟨c28, H29⟩
      ·refine Z1 (Y5 c18 (zno .i64 h22) h24 c26 c28) ?_
       rcases zit H29 with ⟨c30, H31⟩ | ⟨c30, H31⟩
       ·refine Z1 (Y6 c18 (zno .i64 h22) h24 c26 c28 c30) ?_
        obtain rfl := Zi H31
        obtain rfl := Zi H2
        exact ZE0
       ·refine Z1 (Y6 c18 (zno .i64 h22) h24 c26 c28 c30) ?_
        exact ⟨⟨(c, (IntKind.i64.wrap (t14 + 1))), H31⟩, ZR [(0, 0)], Nat.lt_succ_self _⟩
      ·refine Z1 (Y5 c18 (zno .i64 h22) h24 c26 c28) ?_
       exact ⟨⟨(c, (IntKind.i64.wrap (t14 + 1))), H29⟩, ZR [(0, 0)], Nat.lt_succ_self _⟩
     ·refine Z1 (Y4 c18 (zno .i64 h22) h24 c26) ?_
      exact ⟨⟨(c, (IntKind.i64.wrap (t14 + 1))), H27⟩, ZR [(0, 0)], Nat.lt_succ_self _⟩
    ·refine Z1 c18 ?_
     obtain rfl := Zi H19
     exact ⟨⟨(), rfl⟩, ZR [(0, 0)]⟩
 ·rintro ⟨_, he32⟩
  obtain rfl := he32.symm
  try dsimp only at H2
  refine ZT 1 ?_
  refine Z0 ?_
  obtain rfl := Zi H2
  exact ZE0
def mask_whole_L1 (n : Nat) (l : List GEntry) (byDefault : Bool) : Nat → Int → Option ((Unit) ⊕ Bool)
 | 0, _ => none
 | c + 1, t11 =>
  (if (decide (t11 < 3)) then
   (idx [1, 3, 6] t11).bind fun x =>
   (mask_Find n l byDefault x ({ data := #[] })).bind fun t192 =>
   (if t192.2 then
    mask_whole_L1 n l byDefault c (IntKind.i64.wrap (t11 + 1))
   else
    some (.inr false))
  else
   some (.inl ()))
def mask_whole (n : Nat) (l : List GEntry) (byDefault : Bool) : Option Bool :=
 (
  mask_whole_L1 n l byDefault n 0 : Option ((Unit) ⊕ Bool)).bind fun
  | .inl _ =>
   some true
  | .inr r => some r
theorem mask_whole_ok {n : Nat} {l : List GEntry} {byDefault : Bool} {r : Bool} (H : mask_whole n l byDefault = some r) : PureOK Tryz.prog 64 [D.sl (List.map eGEntry l), D.v (.bool byDefault)] (D.v (.bool r)) true := by
 unfold mask_whole at H
 refine ZP tab_ok fol (rs := #[.tmp 4]) Tryz.func64 ?_
 refine zsq (ZT 1 ?_)
 refine Z0 ?_
 refine zsq (zsq ?_)
 refine ZT 1 ?_
 refine Z0 ?_
 obtain ⟨e_, E1, H2⟩ := zbi H
 refine zjn (α := { y : Unit // e_ = .inl y }) (fun | ⟨_, _⟩ => ⟨noFr, noHp, 0⟩) ?_ ?_
 ·refine zbk ?_
  refine zlp (α := { q : Nat × Int // mask_whole_L1 n l byDefault q.1 q.2 = some e_ }) (fun | ⟨⟨c, t11⟩, _⟩ => ⟨upd 0 (.d (.sl (List.map eGEntry l)) true) (upd 1 (.v (.bool byDefault)) (upd 9 (.so 0 0 0 3) (upd 10 (.v (.int .i64 3)) (upd 11 (.v (.int .i64 t11)) noFr)))), upd 0 (some (.rw [[.v (.int .i64 1)], [.v (.int .i64 3)], [.v (.int .i64 6)]] 1 0 false false)) noHp, 1⟩) (fun q => q.1.1) ⟨(n, 0), E1⟩ ?_ ?_
  ·exact ZR [(0, 1)]
  ·rintro ⟨⟨c, t11⟩, L3⟩
   rcases c with _ | c
   ·exact Zx L3
   ·unfold mask_whole_L1 at L3
    try dsimp only at L3
    refine ZT 1 ?_
    refine Z0 ?_
    rcases zit L3 with ⟨c8, H9⟩ | ⟨c8, H9⟩
    ·obtain ⟨x, b10, H11⟩ := zbi H9
     obtain ⟨h12, h13⟩ := zix b10
     try simp only [Int.reduceToNat, Int.toNat_natCast] at h13
     have h14 := map_at eI h13
     simp only [List.map_cons, List.map_nil, eI] at h14
     have h15 := at_lt h13
     simp only [List.length_cons, List.length_nil, Nat.reduceAdd] at h15
     obtain ⟨t192, b16, H17⟩ := zbi H11
     refine Z1 (Y4 c8 (zno .i64 h12) h14 h15) ?_
     refine ZC0 (mask_Find_ok b16) ?_
     refine Z1 (Y4 c8 (zno .i64 h12) h14 h15) ?_
     rcases zit H17 with ⟨c18, H19⟩ | ⟨c18, H19⟩
     ·refine Z1 (Y5 c8 (zno .i64 h12) h14 h15 c18) ?_
      exact ⟨⟨(c, (IntKind.i64.wrap (t11 + 1))), H19⟩, ZR [(0, 0)], Nat.lt_succ_self _⟩
     ·refine Z1 (Y5 c8 (zno .i64 h12) h14 h15 c18) ?_
      obtain rfl := Zi H19
      obtain rfl := Zi H2
      exact ZE0
    ·refine Z1 c8 ?_
     obtain rfl := Zi H9
     exact ⟨⟨(), rfl⟩, ZR []⟩
 ·rintro ⟨_, he20⟩
  obtain rfl := he20.symm
  try dsimp only at H2
  refine ZT 1 ?_
  refine Z0 ?_
  obtain rfl := Zi H2
  exact ZE0
theorem cl60_0 (xs : List GEntry) (h : decide (xs.length = 0) = true) : PureOK Tryz.prog 60 [.sl (List.map eGEntry xs)] (.sl []) true := by
 rw [List.eq_nil_of_length_eq_zero (of_decide_eq_true h)]
 exact clone_nil tab_ok fol Tryz.func60 (T := 34) (B := 4) rfl (by kernel_rfl) (by kernel_rfl) (by decide) rfl (by simp only [go_sem]) (by simp only [go_sem]) (by simp only [go_sem]; decide) (by simp only [go_sem]; decide)
theorem cl60_in (xs : List GEntry) (h0 : 0 < xs.length) (hn : xs.length ≤ 4294967296) {b : Bool} {hp : Hp} {nx : Nat} : InlOK Tryz.prog 60 [.d (.sl (List.map eGEntry xs)) b] hp nx fun v hp2 nx2 => v = .so (nx + 3) 1 0 xs.length ∧ hp2 = upd (nx + 3) (some (.rw (List.map eGEntry xs) 4 1 false false)) hp ∧ nx2 = nx + 7 := by
 have h := clone_map (e := eGEntry) (k := 4) (b := b) (hp := hp) (nx := nx) tab_ok fol Tryz.func60 (T := 34) (B := 4) rfl (by kernel_rfl) (by kernel_rfl) (by decide) rfl (by simp only [go_sem]) (by simp only [go_sem]) (by simp only [go_sem]) (by decide) (by simp only [go_sem]; decide) (fun _ => rfl) xs h0 hn
 rw [plainR_map (f := eGEntry) (fun _ => rfl), Bool.not_true, Bool.and_false] at h
 exact h
def mask_Acl_L1 (_ : Nat) : Nat → Unit → Option (Unit)
 | 0, _ => none
 | _ + 1, _ =>
  some ()
def mask_Acl_L2 (_ : Nat) : Nat → Unit → Option (Unit)
 | 0, _ => none
 | _ + 1, _ =>
  some ()
def mask_Acl_C1_mask_masked (n : Nat) : Option Unit :=
 (mask_Find n [] false 5 ({ data := #[] })).bind fun t13 =>
 (if t13.2 then
  some ()
 else
  (
   mask_Acl_L2 n n () : Option (Unit)).bind fun _ =>
  none)
def mask_Acl_L3 (n : Nat) (l : List GEntry) : Nat → Int → Option ((Unit) ⊕ (List GEntry × Bool))
 | 0, _ => none
 | c + 1, t14 =>
  (if (decide (t14 < (l.length : Int))) then
   (idx l t14).bind fun x2 =>
   (mask_good n x2).bind fun t202 =>
   (if t202 then
    (if (decide (0 < t14)) then
     (idx l (IntKind.i64.wrap (t14 - 1))).bind fun x3 =>
     (mask_compare n x3 x2).bind fun t32 =>
     (if (t32 == 0) then
      some (.inr ([], false))
     else
      mask_Acl_L3 n l c (IntKind.i64.wrap (t14 + 1)))
    else
     mask_Acl_L3 n l c (IntKind.i64.wrap (t14 + 1)))
   else
    some (.inr ([], false)))
  else
   some (.inl ()))
def mask_Acl_L4 (n : Nat) (l : List GEntry) : Nat → (Int × Int) → Option (Int)
 | 0, _ => none
 | c + 1, (n_, t203) =>
  (if (decide (t203 < (l.length : Int))) then
   (idx l t203).bind fun x6 =>
   (if (x6.default == false) then
    (if (x6.kind == 2) then
     mask_Acl_L4 n l c ((IntKind.i64.wrap ((BitVec.ofInt IntKind.i64.bits n_ ||| BitVec.ofInt IntKind.i64.bits x6.bits).toNat : Int)), (IntKind.i64.wrap (t203 + 1)))
    else
     (if (x6.kind == 3) then
      mask_Acl_L4 n l c ((IntKind.i64.wrap ((BitVec.ofInt IntKind.i64.bits n_ ||| BitVec.ofInt IntKind.i64.bits x6.bits).toNat : Int)), (IntKind.i64.wrap (t203 + 1)))
     else
      (if (x6.kind == 4) then
       mask_Acl_L4 n l c ((IntKind.i64.wrap ((BitVec.ofInt IntKind.i64.bits n_ ||| BitVec.ofInt IntKind.i64.bits x6.bits).toNat : Int)), (IntKind.i64.wrap (t203 + 1)))
      else
       mask_Acl_L4 n l c (n_, (IntKind.i64.wrap (t203 + 1))))))
   else
    mask_Acl_L4 n l c (n_, (IntKind.i64.wrap (t203 + 1))))
  else
   some n_)
def mask_Acl_C2_mask_masked (n : Nat) (l : List GEntry) : Option (List GEntry) :=
 (mask_Find n l false 5 ({ data := #[] })).bind fun t132 =>
 (if t132.2 then
  some l
 else
  (
   mask_Acl_L4 n l n (0, 0) : Option (Int)).bind fun n_3 =>
  (app l [(⟨5, false, ByteArray.empty, n_3⟩ : GEntry)]).bind fun l2 =>
  some l2)
def mask_Acl_L5 (n : Nat) (t4 : List GEntry) : Nat → (Int × Int) → Option (Int)
 | 0, _ => none
 | c + 1, (n_4, t205) =>
  (if (decide (t205 < (t4.length : Int))) then
   (idx t4 t205).bind fun x8 =>
   (if (x8.default == true) then
    (if (x8.kind == 2) then
     mask_Acl_L5 n t4 c ((IntKind.i64.wrap ((BitVec.ofInt IntKind.i64.bits n_4 ||| BitVec.ofInt IntKind.i64.bits x8.bits).toNat : Int)), (IntKind.i64.wrap (t205 + 1)))
    else
     (if (x8.kind == 3) then
      mask_Acl_L5 n t4 c ((IntKind.i64.wrap ((BitVec.ofInt IntKind.i64.bits n_4 ||| BitVec.ofInt IntKind.i64.bits x8.bits).toNat : Int)), (IntKind.i64.wrap (t205 + 1)))
     else
      (if (x8.kind == 4) then
       mask_Acl_L5 n t4 c ((IntKind.i64.wrap ((BitVec.ofInt IntKind.i64.bits n_4 ||| BitVec.ofInt IntKind.i64.bits x8.bits).toNat : Int)), (IntKind.i64.wrap (t205 + 1)))
      else
       mask_Acl_L5 n t4 c (n_4, (IntKind.i64.wrap (t205 + 1))))))
   else
    mask_Acl_L5 n t4 c (n_4, (IntKind.i64.wrap (t205 + 1))))
  else
   some n_4)
def mask_Acl_C3_mask_masked (n : Nat) (t4 : List GEntry) : Option (List GEntry) :=
 (mask_Find n t4 true 5 ({ data := #[] })).bind fun t133 =>
 (if t133.2 then
  some t4
 else
  (
   mask_Acl_L5 n t4 n (0, 0) : Option (Int)).bind fun n_6 =>
  (app t4 [(⟨5, true, ByteArray.empty, n_6⟩ : GEntry)]).bind fun l3 =>
  some l3)
def mask_Acl (n : Nat) (t0 : List GEntry) : Option (List GEntry × Bool) :=
 (if (decide (t0.length = 0)) then
  (
   mask_Acl_L1 n n () : Option (Unit)).bind fun _ =>
  (
   some () : Option (Unit)).bind fun _ =>
  (
   (mask_whole n [] false).bind fun t50 =>
   (if t50 then
    some false
   else
    some true) : Option (Bool)).bind fun t59 =>
  (if t59 then
   some ([], false)
  else
   (mask_Acl_C1_mask_masked n : Option Unit).bind fun _ =>
   (
    some () : Option (Unit)).bind fun _ =>
   some ([], true))
 else
  grd (decide (t0.length ≤ 4294967296)) <|
  (sort_Entry n t0).bind fun l =>
  (
   mask_Acl_L3 n l n 0 : Option ((Unit) ⊕ (List GEntry × Bool))).bind fun
   | .inl _ =>
    (
     (if (decide (0 < (l.length : Int))) then
      (idx l (IntKind.i64.wrap ((l.length : Int) - 1))).bind fun x4 =>
      some x4.default
     else
      some false) : Option (Bool)).bind fun t7 =>
    (
     (mask_whole n l false).bind fun t502 =>
     (if t502 then
      (if t7 then
       (mask_whole n l true).bind fun t56 =>
       some (true, (!t56))
      else
       some (false, false))
     else
      some (t7, true)) : Option (Bool × Bool)).bind fun (t72, t592) =>
    (if t592 then
     some ([], false)
    else
     (mask_Acl_C2_mask_masked n l : Option (List GEntry)).bind fun t4 =>
     (
      (if t72 then
       (mask_Acl_C3_mask_masked n t4 : Option (List GEntry)).bind fun t42 =>
       some t42
      else
       some t4) : Option (List GEntry)).bind fun t43 =>
     (sort_Entry n t43).bind fun l4 =>
     (if (decide (100 < (l4.length : Int))) then
      some ([], false)
     else
      some (l4, true)))
   | .inr r => some r)
set_option maxHeartbeats 8000000 in
theorem mask_Acl_ok {n : Nat} {t0 : List GEntry} {r : List GEntry × Bool} (H : mask_Acl n t0 = some r) : PureOK Tryz.prog 29 [D.sl (List.map eGEntry t0)] (D.tu [D.sl (List.map eGEntry r.1), D.v (.bool r.2)]) true := by
 unfold mask_Acl at H
 refine ZP tab_ok fol (rs := #[.tmp 2, .tmp 3]) Tryz.func29 ?_
 refine zsq (ZT 1 ?_)
 refine Z0 ?_
 refine zsq (ZT 1 ?_)
 refine Z0 ?_
 rcases zit H with ⟨c1, H2⟩ | ⟨c1, H2⟩
 ·refine Z1 c1 ?_
  refine ZC0 (cl60_0 t0 c1) ?_
  refine Z1 c1 ?_
  refine zsq (ZT 1 ?_)
  refine Z1 c1 ?_
  refine onCall_inl (InlOK.mono sort_Entry_0 ?_)
  rintro v3 hp4 nx5 ⟨rfl, rfl, rfl⟩
  refine Z1 c1 ?_
  refine zsq (zsq ?_)
  refine ZT 1 ?_
  refine Z1 c1 ?_
  obtain ⟨e_, E6, H7⟩ := zbi H2
  refine zjn (α := { y : Unit // e_ = y }) (fun | ⟨_, _⟩ => ⟨upd 4 (.d (.sl (List.map eGEntry [])) false) noFr, noHp, 0⟩) ?_ ?_
  ·refine zbk ?_
   refine zlp (α := { q : Nat × Unit // mask_Acl_L1 n q.1 q.2 = some e_ }) (fun | ⟨⟨c, _⟩, _⟩ => ⟨upd 4 (.d (.sl (List.map eGEntry [])) false) (upd 12 (.d (.sl (List.map eGEntry [])) false) (upd 13 (.v (.int .i64 0)) (upd 14 (.v (.int .i64 0)) noFr))), noHp, 0⟩) (fun q => q.1.1) ⟨(n, ()), E6⟩ ?_ ?_
   ·exact ZR []
   ·rintro ⟨⟨c, _⟩, L8⟩
    rcases c with _ | c
    ·exact Zx L8
    ·unfold mask_Acl_L1 at L8
     try dsimp only at L8
     refine ZT 1 ?_
     refine Z0 ?_
     obtain rfl := Zi L8
     exact ⟨⟨(), rfl⟩, ZR []⟩
  ·rintro ⟨_, he41⟩
   obtain rfl := he41.symm
   try dsimp only at H7
   refine zsq ?_
   obtain ⟨e_2, E9, H10⟩ := zbi H7
   refine zjn (α := { y : Unit // e_2 = y }) (fun | ⟨_, _⟩ => ⟨upd 4 (.d (.sl (List.map eGEntry [])) false) (upd 7 (.v (.bool false)) noFr), noHp, 0⟩) ?_ ?_
   ·refine ZT 1 ?_
    refine Z0 ?_
    obtain rfl := Zi E9
    exact ⟨⟨(), rfl⟩, ZR []⟩
   ·rintro ⟨_, he40⟩
    obtain rfl := he40.symm
    try dsimp only at H10
    refine zsq (zsq ?_)
    obtain ⟨e_3, E11, H12⟩ := zbi H10
    refine zjn (α := { y : Bool // e_3 = y }) (fun | ⟨t59, _⟩ => ⟨upd 4 (.d (.sl (List.map eGEntry [])) false) (upd 7 (.v (.bool false)) (upd 59 (.v (.bool t59)) noFr)), noHp, 0⟩) ?_ ?_
    ·refine ZT 1 ?_
     obtain ⟨t50, b13, H14⟩ := zbi E11
     refine Z0 ?_
     refine ZC0 (mask_whole_ok b13) ?_
     refine Z0 ?_
     rcases zit H14 with ⟨c15, H16⟩ | ⟨c15, H16⟩
     ·refine Z1 c15 ?_
      obtain rfl := Zi H16
      exact ⟨⟨false, rfl⟩, ZR []⟩
     ·refine Z1 c15 ?_
      obtain rfl := Zi H16
      exact ⟨⟨true, rfl⟩, ZR []⟩
    ·rintro ⟨t59, he39⟩
     obtain rfl := he39.symm
     try dsimp only at H12
     refine ZT 1 ?_
     refine Z0 ?_
     rcases zit H12 with ⟨c17, H18⟩ | ⟨c17, H18⟩
     ·refine Z1 c17 ?_
      obtain rfl := Zi H18
      exact ZE0
     ·refine Z1 c17 ?_
      refine zsq (ZT 1 ?_)
      refine Z1 c17 ?_
      obtain ⟨e_4, E19, H20⟩ := zbi H18
      refine onCall_inl (InlOK.mono (inl_runRJ (α := { y : Unit // e_4 = y }) tab_ok Tryz.func65 rfl (by kernel_rfl) (by kernel_rfl) (by simp [Tryz.f65]) (fun | ⟨_, _⟩ => ⟨upd 4 (.d (.sl (List.map eGEntry [])) false) noFr, noHp, 3⟩) (fun | ⟨_, _⟩ => .d (.sl (List.map eGEntry [])) false) (by rintro ⟨_, he29⟩; first | ((simp -implicitDefEqProofs only [go_sem, ↓reduceIte, Tryz.f65]) <;> rfl) | rfl) ?_) ?_)
      ·unfold mask_Acl_C1_mask_masked at E19
       try dsimp only at E19
       refine zsq (ZT 1 ?_)
       refine Z0 ?_
       refine zsq (ZT 1 ?_)
       obtain ⟨t13, b21, H22⟩ := zbi E19
       refine Z0 ?_
       refine ZC0 (mask_Find_ok b21) ?_
       refine Z0 ?_
       rcases zit H22 with ⟨c23, H24⟩ | ⟨c23, H24⟩
       ·refine Z1 c23 ?_
        obtain rfl := Option.some.inj H24
        exact endJ_ret ⟨(), rfl⟩ (ZR [])
       ·refine Z1 c23 ?_
        refine zsq (ZT 1 ?_)
        refine Z1 c23 ?_
        refine zsq (zsq ?_)
        refine ZT 1 ?_
        refine Z1 c23 ?_
        obtain ⟨e_5, E25, H26⟩ := zbi H24
        refine zjn (α := { y : Unit // e_5 = y }) (fun | ⟨_, _⟩ => ⟨upd 0 (.d (.sl (List.map eGEntry [])) false) (upd 1 (.v (.bool false)) (upd 7 (.v (.int .i64 0)) noFr)), noHp, 3⟩) ?_ ?_
        ·refine zbk ?_
         refine zlp (α := { q : Nat × Unit // mask_Acl_L2 n q.1 q.2 = some e_5 }) (fun | ⟨⟨c, _⟩, _⟩ => ⟨upd 0 (.d (.sl (List.map eGEntry [])) false) (upd 1 (.v (.bool false)) (upd 7 (.v (.int .i64 0)) (upd 18 (.d (.sl (List.map eGEntry [])) false) (upd 19 (.v (.int .i64 0)) (upd 20 (.v (.int .i64 0)) noFr))))), noHp, 3⟩) (fun q => q.1.1) ⟨(n, ()), E25⟩ ?_ ?_
         ·exact ZR []
         ·rintro ⟨⟨c, _⟩, L27⟩
          rcases c with _ | c
          ·exact Zx L27
          ·unfold mask_Acl_L2 at L27
           try dsimp only at L27
           refine ZT 1 ?_
           refine Z0 ?_
           obtain rfl := Zi L27
           exact ⟨⟨(), rfl⟩, ZR []⟩
        ·rintro ⟨_, he28⟩
         obtain rfl := he28.symm
         try dsimp only at H26
         refine ZT 1 ?_
         cases H26
      rintro v30 hp31 nx32 ⟨⟨_, he29⟩, rfl, rfl, rfl⟩
      obtain rfl := he29.symm
      try dsimp only at H20
      dsimp only
      refine Z0 ?_
      refine zsq (zsq ?_)
      refine ZT 1 ?_
      refine Z0 ?_
      obtain ⟨e_6, E33, H34⟩ := zbi H20
      refine zjn (α := { y : Unit // e_6 = y }) (fun | ⟨_, _⟩ => ⟨upd 4 (.d (.sl (List.map eGEntry [])) false) noFr, noHp, 0⟩) ?_ ?_
      ·refine ZT 1 ?_
       refine Z0 ?_
       obtain rfl := Zi E33
       exact ⟨⟨(), rfl⟩, ZR []⟩
      ·rintro ⟨_, he38⟩
       obtain rfl := he38.symm
       try dsimp only at H34
       refine ZT 1 ?_
       refine Z0 ?_
       refine onCall_inl (InlOK.mono sort_Entry_0 ?_)
       rintro v35 hp36 nx37 ⟨rfl, rfl, rfl⟩
       refine Z0 ?_
       obtain rfl := Zi H34
       exact ZE0
 ·obtain ⟨g42, H43⟩ := grd_inv H2
  have h44 : t0.length ≤ 4294967296 := of_decide_eq_true g42
  have q45 : 0 < t0.length := by have := of_decide_eq_false c1; omega
  refine Z1 c1 ?_
  refine onCall_inl (InlOK.mono (cl60_in t0 q45 h44) ?_)
  rintro v46 hp47 nx48 ⟨rfl, rfl, rfl⟩
  refine Z1 (Y2 c1 h44) ?_
  refine zsq (ZT 1 ?_)
  obtain ⟨l, b52, H53⟩ := zbi H43
  refine Z1 (Y2 c1 h44) ?_
  have h54 := sort_Entry_len b52
  refine onCall_inl (InlOK.mono (sort_Entry_in b52 (by first | rfl | (simp -implicitDefEqProofs only [go_sem, Bool.false_and, Int.reduceToNat, Int.reduceLT, Int.reduceLE, Int.reduceBEq, Int.reduceBNe, Nat.reduceLT, Nat.reduceBEq, Int.reduceEq, Nat.reduceEqDiff, Nat.reduceAdd, Nat.reduceSub, Nat.reduceMul, Nat.reduceLeDiff, reduceCtorEq, ↓reduceIte, eGEntry, eGFile, eGWord, eGLine, c1, h44]; done) | (simp -implicitDefEqProofs only [go_sem, Bool.false_and, Int.reduceToNat, Int.reduceLT, Int.reduceLE, Int.reduceBEq, Int.reduceBNe, Nat.reduceLT, Nat.reduceBEq, Int.reduceEq, Nat.reduceEqDiff, Nat.reduceAdd, Nat.reduceSub, Nat.reduceMul, Nat.reduceLeDiff, reduceCtorEq, ↓reduceIte, eGEntry, eGFile, eGWord, eGLine, c1, h44]; rfl))) ?_)
  rintro v49 hp50 nx51 ⟨rfl, rfl, rfl⟩
  try rw [h54]
  refine Z1 (Y2 c1 h44) ?_
  refine zsq (zsq ?_)
  refine ZT 1 ?_
  refine Z1 (Y2 c1 h44) ?_
  obtain ⟨e_7, E55, H56⟩ := zbi H53
  refine zjn (α := { y : Unit // e_7 = .inl y }) (fun | ⟨_, _⟩ => ⟨upd 4 (.so 0 1 0 (l.length)) noFr, upd 0 (some (.rw (List.map eGEntry l) 4 1 false false)) noHp, 1⟩) ?_ ?_
  ·refine zbk ?_
   refine zlp (α := { q : Nat × Int // mask_Acl_L3 n l q.1 q.2 = some e_7 }) (fun | ⟨⟨c, t14⟩, _⟩ => ⟨upd 4 (.so 0 1 0 (l.length)) (upd 12 (.so 0 1 0 (l.length)) (upd 13 (.v (.int .i64 (l.length : Int))) (upd 14 (.v (.int .i64 t14)) noFr))), upd 0 (some (.rw (List.map eGEntry l) 4 1 false false)) noHp, 1⟩) (fun q => q.1.1) ⟨(n, 0), E55⟩ ?_ ?_
   ·exact ZR [(0, 8)]
   ·rintro ⟨⟨c, t14⟩, L57⟩
    rcases c with _ | c
    ·exact Zx L57
    ·unfold mask_Acl_L3 at L57
     try dsimp only at L57
     refine ZT 1 ?_
     refine Z0 ?_
     rcases zit L57 with ⟨c70, H71⟩ | ⟨c70, H71⟩
     ·obtain ⟨x2, b72, H73⟩ := zbi H71
      obtain ⟨h74, h75⟩ := zix b72
      try simp only [Int.reduceToNat, Int.toNat_natCast] at h75
      have h76 := map_at eGEntry h75
      have h77 := at_lt h75
      obtain ⟨t202, b78, H79⟩ := zbi H73
      refine Z1 (Y4 c70 (zno .i64 h74) h76 h77) ?_
      refine ZD0 (mask_good_ok b78) ?_
      refine Z1 (Y4 c70 (zno .i64 h74) h76 h77) ?_
      rcases zit H79 with ⟨c80, H81⟩ | ⟨c80, H81⟩
      ·refine Z1 (Y5 c70 (zno .i64 h74) h76 h77 c80) ?_
       rcases zit H81 with ⟨c82, H83⟩ | ⟨c82, H83⟩
       ·obtain ⟨x3, b84, H85⟩ := zbi H83
        obtain ⟨h86, h87⟩ := zix b84
        try simp only [Int.reduceToNat, Int.toNat_natCast] at h87
        have h88 := map_at eGEntry h87
        have h89 := at_lt h87
        obtain ⟨t32, b90, H91⟩ := zbi H85
        refine Z1 (Y2 (Y6 c70 (zno .i64 h74) h76 h77 c80 c82) (Y3 (zno .i64 h86) h88 h89)) ?_
        refine ZD0 (mask_compare_ok b90) ?_
        refine Z1 (Y2 (Y6 c70 (zno .i64 h74) h76 h77 c80 c82) (Y3 (zno .i64 h86) h88 h89)) ?_
        refine Rd_endF (by rfl) ?_
        refine Z1 (Y2 (Y6 c70 (zno .i64 h74) h76 h77 c80 c82) (Y3 (zno .i64 h86) h88 h89)) ?_
        rcases zit H91 with ⟨c92, H93⟩ | ⟨c92, H93⟩
        ·refine Z1 (Y2 (Y6 c70 (zno .i64 h74) h76 h77 c80 c82) (Y4 (zno .i64 h86) h88 h89 c92)) ?_
         obtain rfl := Zi H93
         obtain rfl := Zi H56
         exact ZE0
        ·refine Z1 (Y2 (Y6 c70 (zno .i64 h74) h76 h77 c80 c82) (Y4 (zno .i64 h86) h88 h89 c92)) ?_
         exact ⟨⟨(c, (IntKind.i64.wrap (t14 + 1))), H93⟩, ZR [(0, 0)], Nat.lt_succ_self _⟩
       ·refine Z1 (Y6 c70 (zno .i64 h74) h76 h77 c80 c82) ?_
        refine Rd_endF (by rfl) ?_
        refine Z1 (Y6 c70 (zno .i64 h74) h76 h77 c80 c82) ?_
        exact ⟨⟨(c, (IntKind.i64.wrap (t14 + 1))), H83⟩, ZR [(0, 0)], Nat.lt_succ_self _⟩
      ·refine Z1 (Y5 c70 (zno .i64 h74) h76 h77 c80) ?_
       refine Rd_endF (by rfl) ?_
       refine Z1 (Y5 c70 (zno .i64 h74) h76 h77 c80) ?_
       obtain rfl := Zi H81
       obtain rfl := Zi H56
       exact ZE0
     ·refine Z1 c70 ?_
      obtain rfl := Zi H71
      exact ⟨⟨(), rfl⟩, ZR [(0, 0)]⟩
  ·rintro ⟨_, he239⟩
   obtain rfl := he239.symm
   try dsimp only at H56
   refine zsq ?_
   obtain ⟨e_8, E94, H95⟩ := zbi H56
   refine zjn (α := { y : Bool // e_8 = y }) (fun | ⟨t7, _⟩ => ⟨upd 4 (.so 0 1 0 (l.length)) (upd 7 (.v (.bool t7)) noFr), upd 0 (some (.rw (List.map eGEntry l) 4 1 false false)) noHp, 1⟩) ?_ ?_
   ·refine ZT 1 ?_
    refine Z0 ?_
    rcases zit E94 with ⟨c96, H97⟩ | ⟨c96, H97⟩
    ·obtain ⟨x4, b98, H99⟩ := zbi H97
     obtain ⟨h100, h101⟩ := zix b98
     try simp only [Int.reduceToNat, Int.toNat_natCast] at h101
     have h102 := map_at eGEntry h101
     have h103 := at_lt h101
     refine Z1 (Y4 c96 (zno .i64 h100) h102 h103) ?_
     obtain rfl := Zi H99
     exact ⟨⟨x4.default, rfl⟩, ZR [(0, 0)]⟩
    ·refine Z1 c96 ?_
     obtain rfl := Zi H97
     exact ⟨⟨false, rfl⟩, ZR [(0, 0)]⟩
   ·rintro ⟨t7, he238⟩
    obtain rfl := he238.symm
    try dsimp only at H95
    refine zsq (zsq ?_)
    obtain ⟨e_9, E104, H105⟩ := zbi H95
    refine zjn (α := { y : Bool × Bool // e_9 = y }) (fun | ⟨⟨t72, t592⟩, _⟩ => ⟨upd 4 (.so 0 1 0 (l.length)) (upd 7 (.v (.bool t72)) (upd 59 (.v (.bool t592)) noFr)), upd 0 (some (.rw (List.map eGEntry l) 4 1 false false)) noHp, 1⟩) ?_ ?_
    ·refine ZT 1 ?_
     obtain ⟨t502, b106, H107⟩ := zbi E104
     refine Z0 ?_
     refine ZC0 (mask_whole_ok b106) ?_
     refine Z0 ?_
     rcases zit H107 with ⟨c108, H109⟩ | ⟨c108, H109⟩
     ·refine Z1 c108 ?_
      rcases zit H109 with ⟨c110, H111⟩ | ⟨c110, H111⟩
      ·obtain ⟨t56, b112, H113⟩ := zbi H111
       refine Z1 (Y2 c108 c110) ?_
       refine ZC1 (Y2 c108 c110) (mask_whole_ok b112) ?_
       refine Z1 (Y2 c108 c110) ?_
       obtain rfl := Zi H113
       exact ⟨⟨(true, (!t56)), rfl⟩, ZR [(0, 0)]⟩
      ·refine Z1 (Y2 c108 c110) ?_
       obtain rfl := Zi H111
       exact ⟨⟨(false, false), rfl⟩, ZR [(0, 0)]⟩
     ·refine Z1 c108 ?_
      obtain rfl := Zi H109
      exact ⟨⟨(t7, true), rfl⟩, ZR [(0, 0)]⟩
    ·rintro ⟨⟨t72, t592⟩, he237⟩
     obtain rfl := he237.symm
     try dsimp only at H105
     refine ZT 1 ?_
     refine Z0 ?_
     rcases zit H105 with ⟨c114, H115⟩ | ⟨c114, H115⟩
     ·refine Z1 c114 ?_
      obtain rfl := Zi H115
      exact ZE0
     ·refine Z1 c114 ?_
      refine zsq (ZT 1 ?_)
      refine Z1 c114 ?_
      obtain ⟨e_10, E116, H117⟩ := zbi H115
      refine onCall_inl (InlOK.mono (inl_runRJ (α := { y : List GEntry // e_10 = y } × Nat) tab_ok Tryz.func65 rfl (by kernel_rfl) (by kernel_rfl) (by simp [Tryz.f65]) (fun | ⟨⟨t4, _⟩, g⟩ => ⟨upd 4 (.so 0 g 0 (t4.length)) noFr, upd 0 (some (.rw (List.map eGEntry t4) 4 g false false)) noHp, 4⟩) (fun | ⟨⟨t4, _⟩, g⟩ => .so 0 g 0 (t4.length)) (by rintro ⟨⟨t4, he166⟩, g⟩; first | ((simp -implicitDefEqProofs only [go_sem, ↓reduceIte, Tryz.f65]) <;> rfl) | rfl) ?_) ?_)
      ·unfold mask_Acl_C2_mask_masked at E116
       try dsimp only at E116
       refine zsq (ZT 1 ?_)
       refine Z0 ?_
       refine zsq (ZT 1 ?_)
       obtain ⟨t132, b118, H119⟩ := zbi E116
       refine Z0 ?_
       refine ZC0 (mask_Find_ok b118) ?_
       refine Z0 ?_
       rcases zit H119 with ⟨c120, H121⟩ | ⟨c120, H121⟩
       ·refine Z1 c120 ?_
        obtain rfl := Option.some.inj H121
        exact endJ_ret ⟨⟨l, rfl⟩, 1⟩ (ZR [])
       ·refine Z1 c120 ?_
        refine zsq (ZT 1 ?_)
        refine Z1 c120 ?_
        refine zsq (zsq ?_)
        refine ZT 1 ?_
        refine Z1 c120 ?_
        obtain ⟨e_11, E122, H123⟩ := zbi H121
        refine zjn (α := { y : Int // e_11 = y }) (fun | ⟨n_3, _⟩ => ⟨upd 0 (.so 0 1 0 (l.length)) (upd 1 (.v (.bool false)) (upd 7 (.v (.int .i64 n_3)) noFr)), upd 0 (some (.rw (List.map eGEntry l) 4 1 false false)) noHp, 4⟩) ?_ ?_
        ·refine zbk ?_
         refine zlp (α := { q : Nat × (Int × Int) // mask_Acl_L4 n l q.1 q.2 = some e_11 }) (fun | ⟨⟨c, ⟨n_, t203⟩⟩, _⟩ => ⟨upd 0 (.so 0 1 0 (l.length)) (upd 1 (.v (.bool false)) (upd 7 (.v (.int .i64 n_)) (upd 18 (.so 0 1 0 (l.length)) (upd 19 (.v (.int .i64 (l.length : Int))) (upd 20 (.v (.int .i64 t203)) noFr))))), upd 0 (some (.rw (List.map eGEntry l) 4 1 false false)) noHp, 4⟩) (fun q => q.1.1) ⟨(n, (0, 0)), E122⟩ ?_ ?_
         ·exact ZR []
         ·rintro ⟨⟨c, ⟨n_, t203⟩⟩, L124⟩
          rcases c with _ | c
          ·exact Zx L124
          ·unfold mask_Acl_L4 at L124
           try dsimp only at L124
           refine ZT 1 ?_
           refine Z0 ?_
           rcases zit L124 with ⟨c141, H142⟩ | ⟨c141, H142⟩
           ·obtain ⟨x6, b143, H144⟩ := zbi H142
            obtain ⟨h145, h146⟩ := zix b143
            try simp only [Int.reduceToNat, Int.toNat_natCast] at h146
            have h147 := map_at eGEntry h146
            have h148 := at_lt h146
            refine Z1 (Y4 c141 (zno .i64 h145) h147 h148) ?_
            rcases zit H144 with ⟨c149, H150⟩ | ⟨c149, H150⟩
            ·refine Z1 (Y5 c141 (zno .i64 h145) h147 h148 c149) ?_
             rcases zit H150 with ⟨c151, H152⟩ | ⟨c151, H152⟩
             ·refine Z1 (Y6 c141 (zno .i64 h145) h147 h148 c149 c151) ?_
              exact ⟨⟨(c, ((IntKind.i64.wrap ((BitVec.ofInt IntKind.i64.bits n_ ||| BitVec.ofInt IntKind.i64.bits x6.bits).toNat : Int)), (IntKind.i64.wrap (t203 + 1)))), H152⟩, ZR [], Nat.lt_succ_self _⟩
             ·refine Z1 (Y6 c141 (zno .i64 h145) h147 h148 c149 c151) ?_
              rcases zit H152 with ⟨c153, H154⟩ | ⟨c153, H154⟩
              ·refine Z1 (Y2 (Y6 c141 (zno .i64 h145) h147 h148 c149 c151) c153) ?_
               exact ⟨⟨(c, ((IntKind.i64.wrap ((BitVec.ofInt IntKind.i64.bits n_ ||| BitVec.ofInt IntKind.i64.bits x6.bits).toNat : Int)), (IntKind.i64.wrap (t203 + 1)))), H154⟩, ZR [], Nat.lt_succ_self _⟩
              ·refine Z1 (Y2 (Y6 c141 (zno .i64 h145) h147 h148 c149 c151) c153) ?_
               rcases zit H154 with ⟨c155, H156⟩ | ⟨c155, H156⟩
               ·refine Z1 (Y2 (Y6 c141 (zno .i64 h145) h147 h148 c149 c151) (Y2 c153 c155)) ?_
                exact ⟨⟨(c, ((IntKind.i64.wrap ((BitVec.ofInt IntKind.i64.bits n_ ||| BitVec.ofInt IntKind.i64.bits x6.bits).toNat : Int)), (IntKind.i64.wrap (t203 + 1)))), H156⟩, ZR [], Nat.lt_succ_self _⟩
               ·refine Z1 (Y2 (Y6 c141 (zno .i64 h145) h147 h148 c149 c151) (Y2 c153 c155)) ?_
                exact ⟨⟨(c, (n_, (IntKind.i64.wrap (t203 + 1)))), H156⟩, ZR [], Nat.lt_succ_self _⟩
            ·refine Z1 (Y5 c141 (zno .i64 h145) h147 h148 c149) ?_
             exact ⟨⟨(c, (n_, (IntKind.i64.wrap (t203 + 1)))), H150⟩, ZR [], Nat.lt_succ_self _⟩
           ·refine Z1 c141 ?_
            obtain rfl := Zi H142
            exact ⟨⟨n_, rfl⟩, ZR []⟩
        ·rintro ⟨n_3, he165⟩
         obtain rfl := he165.symm
         try dsimp only at H123
         refine ZT 1 ?_
         obtain ⟨l2, b157, H158⟩ := zbi H123
         obtain ⟨h159, h160⟩ := app_inv b157
         have h159 : l.length + 1 ≤ 4294967296 := h159
         have h161 : List.map eGEntry l ++ [[.v (.int .i64 5), .v (.bool false), .v (.string ByteArray.empty), .v (.int .i64 n_3)]] = List.map eGEntry l2 := app_map eGEntry h160
         have h162 : l.length + 1 = l2.length := app_len h160
         have h163 : l2.length ≤ 4294967296 := by omega
         have q164 : 0 < l2.length := by omega
         refine Z1 (Y4 h159 h161 h162 h163) ?_
         obtain rfl := Option.some.inj H158
         exact endJ_ret ⟨⟨l2, rfl⟩, 2⟩ (ZR [])
      rintro v167 hp168 nx169 ⟨⟨⟨t4, he166⟩, g⟩, rfl, rfl, rfl⟩
      obtain rfl := he166.symm
      try dsimp only at H117
      dsimp only
      refine Z0 ?_
      refine zsq (zsq ?_)
      refine ZT 1 ?_
      refine Z0 ?_
      obtain ⟨e_12, E170, H171⟩ := zbi H117
      refine zjn (α := { y : List GEntry // e_12 = y } × Nat) (fun | ⟨⟨t43, _⟩, g3⟩ => ⟨upd 4 (.so 0 g3 0 (t43.length)) noFr, upd 0 (some (.rw (List.map eGEntry t43) 4 g3 false false)) noHp, 1⟩) ?_ ?_
      ·refine ZT 1 ?_
       refine Z0 ?_
       rcases zit E170 with ⟨c172, H173⟩ | ⟨c172, H173⟩
       ·refine Z1 c172 ?_
        obtain ⟨e_13, E174, H175⟩ := zbi H173
        refine onCall_inl (InlOK.mono (inl_runRJ (α := { y : List GEntry // e_13 = y } × Nat) tab_ok Tryz.func65 rfl (by kernel_rfl) (by kernel_rfl) (by simp [Tryz.f65]) (fun | ⟨⟨t42, _⟩, g2⟩ => ⟨upd 4 (.so 0 g2 0 (t42.length)) noFr, upd 0 (some (.rw (List.map eGEntry t42) 4 g2 false false)) noHp, 8⟩) (fun | ⟨⟨t42, _⟩, g2⟩ => .so 0 g2 0 (t42.length)) (by rintro ⟨⟨t42, he224⟩, g2⟩; first | ((simp -implicitDefEqProofs only [go_sem, ↓reduceIte, Tryz.f65]) <;> rfl) | rfl) ?_) ?_)
        ·unfold mask_Acl_C3_mask_masked at E174
         try dsimp only at E174
         refine zsq (ZT 1 ?_)
         refine Z0 ?_
         refine zsq (ZT 1 ?_)
         obtain ⟨t133, b176, H177⟩ := zbi E174
         refine Z0 ?_
         refine ZC0 (mask_Find_ok b176) ?_
         refine Z0 ?_
         rcases zit H177 with ⟨c178, H179⟩ | ⟨c178, H179⟩
         ·refine Z1 c178 ?_
          obtain rfl := Option.some.inj H179
          exact endJ_ret ⟨⟨t4, rfl⟩, g⟩ (ZR [])
         ·refine Z1 c178 ?_
          refine zsq (ZT 1 ?_)
          refine Z1 c178 ?_
          refine zsq (zsq ?_)
          refine ZT 1 ?_
          refine Z1 c178 ?_
          obtain ⟨e_14, E180, H181⟩ := zbi H179
          refine zjn (α := { y : Int // e_14 = y }) (fun | ⟨n_6, _⟩ => ⟨upd 0 (.so 0 g 0 (t4.length)) (upd 1 (.v (.bool true)) (upd 7 (.v (.int .i64 n_6)) noFr)), upd 0 (some (.rw (List.map eGEntry t4) 4 g false false)) noHp, 8⟩) ?_ ?_
          ·refine zbk ?_
           refine zlp (α := { q : Nat × (Int × Int) // mask_Acl_L5 n t4 q.1 q.2 = some e_14 }) (fun | ⟨⟨c, ⟨n_4, t205⟩⟩, _⟩ => ⟨upd 0 (.so 0 g 0 (t4.length)) (upd 1 (.v (.bool true)) (upd 7 (.v (.int .i64 n_4)) (upd 18 (.so 0 g 0 (t4.length)) (upd 19 (.v (.int .i64 (t4.length : Int))) (upd 20 (.v (.int .i64 t205)) noFr))))), upd 0 (some (.rw (List.map eGEntry t4) 4 g false false)) noHp, 8⟩) (fun q => q.1.1) ⟨(n, (0, 0)), E180⟩ ?_ ?_
           ·exact ZR []
           ·rintro ⟨⟨c, ⟨n_4, t205⟩⟩, L182⟩
            rcases c with _ | c
            ·exact Zx L182
            ·unfold mask_Acl_L5 at L182
             try dsimp only at L182
             refine ZT 1 ?_
             refine Z0 ?_
             rcases zit L182 with ⟨c199, H200⟩ | ⟨c199, H200⟩
             ·obtain ⟨x8, b201, H202⟩ := zbi H200
              obtain ⟨h203, h204⟩ := zix b201
              try simp only [Int.reduceToNat, Int.toNat_natCast] at h204
              have h205 := map_at eGEntry h204
              have h206 := at_lt h204
              refine Z1 (Y4 c199 (zno .i64 h203) h205 h206) ?_
              rcases zit H202 with ⟨c207, H208⟩ | ⟨c207, H208⟩
              ·refine Z1 (Y5 c199 (zno .i64 h203) h205 h206 c207) ?_
               rcases zit H208 with ⟨c209, H210⟩ | ⟨c209, H210⟩
               ·refine Z1 (Y6 c199 (zno .i64 h203) h205 h206 c207 c209) ?_
                exact ⟨⟨(c, ((IntKind.i64.wrap ((BitVec.ofInt IntKind.i64.bits n_4 ||| BitVec.ofInt IntKind.i64.bits x8.bits).toNat : Int)), (IntKind.i64.wrap (t205 + 1)))), H210⟩, ZR [], Nat.lt_succ_self _⟩
               ·refine Z1 (Y6 c199 (zno .i64 h203) h205 h206 c207 c209) ?_
                rcases zit H210 with ⟨c211, H212⟩ | ⟨c211, H212⟩
                ·refine Z1 (Y2 (Y6 c199 (zno .i64 h203) h205 h206 c207 c209) c211) ?_
                 exact ⟨⟨(c, ((IntKind.i64.wrap ((BitVec.ofInt IntKind.i64.bits n_4 ||| BitVec.ofInt IntKind.i64.bits x8.bits).toNat : Int)), (IntKind.i64.wrap (t205 + 1)))), H212⟩, ZR [], Nat.lt_succ_self _⟩
                ·refine Z1 (Y2 (Y6 c199 (zno .i64 h203) h205 h206 c207 c209) c211) ?_
                 rcases zit H212 with ⟨c213, H214⟩ | ⟨c213, H214⟩
                 ·refine Z1 (Y2 (Y6 c199 (zno .i64 h203) h205 h206 c207 c209) (Y2 c211 c213)) ?_
                  exact ⟨⟨(c, ((IntKind.i64.wrap ((BitVec.ofInt IntKind.i64.bits n_4 ||| BitVec.ofInt IntKind.i64.bits x8.bits).toNat : Int)), (IntKind.i64.wrap (t205 + 1)))), H214⟩, ZR [], Nat.lt_succ_self _⟩
                 ·refine Z1 (Y2 (Y6 c199 (zno .i64 h203) h205 h206 c207 c209) (Y2 c211 c213)) ?_
                  exact ⟨⟨(c, (n_4, (IntKind.i64.wrap (t205 + 1)))), H214⟩, ZR [], Nat.lt_succ_self _⟩
              ·refine Z1 (Y5 c199 (zno .i64 h203) h205 h206 c207) ?_
               exact ⟨⟨(c, (n_4, (IntKind.i64.wrap (t205 + 1)))), H208⟩, ZR [], Nat.lt_succ_self _⟩
             ·refine Z1 c199 ?_
              obtain rfl := Zi H200
              exact ⟨⟨n_4, rfl⟩, ZR []⟩
          ·rintro ⟨n_6, he223⟩
           obtain rfl := he223.symm
           try dsimp only at H181
           refine ZT 1 ?_
           obtain ⟨l3, b215, H216⟩ := zbi H181
           obtain ⟨h217, h218⟩ := app_inv b215
           have h217 : t4.length + 1 ≤ 4294967296 := h217
           have h219 : List.map eGEntry t4 ++ [[.v (.int .i64 5), .v (.bool true), .v (.string ByteArray.empty), .v (.int .i64 n_6)]] = List.map eGEntry l3 := app_map eGEntry h218
           have h220 : t4.length + 1 = l3.length := app_len h218
           have h221 : l3.length ≤ 4294967296 := by omega
           have q222 : 0 < l3.length := by omega
           refine Z1 (Y4 h217 h219 h220 h221) ?_
           obtain rfl := Option.some.inj H216
           exact endJ_ret ⟨⟨l3, rfl⟩, (g + 1)⟩ (ZR [])
        rintro v225 hp226 nx227 ⟨⟨⟨t42, he224⟩, g2⟩, rfl, rfl, rfl⟩
        obtain rfl := he224.symm
        try dsimp only at H175
        dsimp only
        refine Z0 ?_
        obtain rfl := Zi H175
        exact ⟨⟨⟨t42, rfl⟩, g2⟩, ZR [(0, 0)]⟩
       ·refine Z1 c172 ?_
        obtain rfl := Zi H173
        exact ⟨⟨⟨t4, rfl⟩, g⟩, ZR [(0, 0)]⟩
      ·rintro ⟨⟨t43, he236⟩, g3⟩
       obtain rfl := he236.symm
       try dsimp only at H171
       refine ZT 1 ?_
       obtain ⟨l4, b231, H232⟩ := zbi H171
       refine Z0 ?_
       have h233 := sort_Entry_len b231
       refine onCall_inl (InlOK.mono (sort_Entry_in b231 (by first | rfl | (simp -implicitDefEqProofs only [go_sem, Bool.false_and, Int.reduceToNat, Int.reduceLT, Int.reduceLE, Int.reduceBEq, Int.reduceBNe, Nat.reduceLT, Nat.reduceBEq, Int.reduceEq, Nat.reduceEqDiff, Nat.reduceAdd, Nat.reduceSub, Nat.reduceMul, Nat.reduceLeDiff, reduceCtorEq, ↓reduceIte, eGEntry, eGFile, eGWord, eGLine]; done) | (simp -implicitDefEqProofs only [go_sem, Bool.false_and, Int.reduceToNat, Int.reduceLT, Int.reduceLE, Int.reduceBEq, Int.reduceBNe, Nat.reduceLT, Nat.reduceBEq, Int.reduceEq, Nat.reduceEqDiff, Nat.reduceAdd, Nat.reduceSub, Nat.reduceMul, Nat.reduceLeDiff, reduceCtorEq, ↓reduceIte, eGEntry, eGFile, eGWord, eGLine]; rfl))) ?_)
       rintro v228 hp229 nx230 ⟨rfl, rfl, rfl⟩
       try rw [h233]
       refine Z0 ?_
       rcases zit H232 with ⟨c234, H235⟩ | ⟨c234, H235⟩
       ·refine Z1 c234 ?_
        obtain rfl := Zi H235
        exact ZE0
       ·refine Z1 c234 ?_
        obtain rfl := Zi H235
        exact ZE1 c234
end Go.Proofs.YtgmhbmcdlkajdaaGreatDoor.Ab
