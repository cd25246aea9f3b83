/-
 Functions, read off the code.
-/
import Derived.Test.YtkikhbfdadambaaDoorAcs
import Derived.Test.YtkikhbfdadambaaDoorAwa
namespace Go.Proofs.YtkikhbfdadambaaDoor.Ab
open Go.RowKit
def law17_Acl_c1_L1 (n : Nat) (k2 : Int) : Nat → (ByteArray × Int) → Option (ByteArray)
 | 0, _ => none
 | c + 1, (t, i) =>
  (if (decide (i < 3)) then
   grd (decide (0 ≤ (IntKind.u64.wrap i))) <|
   (if ((IntKind.i64.wrap (an (sh k2 (Int.toNat (IntKind.u64.wrap i))) 1 : Int)) == 1) then
    (bslc ({ data := #[114, 119, 120] }) i (IntKind.i64.wrap (i + 1))).bind fun s4 =>
    (cat t s4).bind fun s5 =>
    law17_Acl_c1_L1 n k2 c (s5, (IntKind.i64.wrap (i + 1)))
   else
    (cat t ({ data := #[45] })).bind fun s6 =>
    law17_Acl_c1_L1 n k2 c (s6, (IntKind.i64.wrap (i + 1))))
  else
   some t)
def law17_Acl_c1 (n : Nat) (k2 : Int) : Option ByteArray :=
 (
  law17_Acl_c1_L1 n k2 n ({ data := #[] }, 0) : Option (ByteArray)).bind fun t3 =>
 some t3
set_option maxHeartbeats 8000000 in
theorem law17_Acl_c1_ok {n : Nat} {k2 : Int} {r : ByteArray} (H : law17_Acl_c1 n k2 = some r) : PureOK Tryd.prog 30 [D.v (.int .i64 k2)] (D.v (.string r)) true := by
 unfold law17_Acl_c1 at H
 refine ZP tab_ok fol (rs := #[.tmp 2]) Tryd.func30 ?_
 refine runR_seq ?_
 refine ZT 1 ?_
 refine Z0 ?_
 refine runR_seq ?_
 refine ZT 1 ?_
 refine Z0 ?_
 refine runR_seq ?_
 refine runR_seq ?_
 refine ZT 1 ?_
 refine Z0 ?_
 obtain ⟨e_, E1, H2⟩ := bind_inv H
 refine runR_join (α := { y : ByteArray // e_ = y }) (fun | ⟨t3, _⟩ => ⟨upd 3 (.v (.string t3)) noFr, noHp, 0⟩) ?_ ?_
 ·refine runR_block ?_
  refine runR_loop (α := { q : Nat × (ByteArray × Int) // law17_Acl_c1_L1 n k2 q.1 q.2 = some e_ }) (fun | ⟨⟨c, ⟨t, i⟩⟩, _⟩ => ⟨upd 0 (.v (.int .i64 k2)) (upd 3 (.v (.string t)) (upd 4 (.v (.int .i64 i)) noFr)), noHp, 0⟩) (fun q => q.1.1) ⟨(n, ({ data := #[] }, 0)), E1⟩ ?_ ?_
  ·exact ZR []
  ·rintro ⟨⟨c, ⟨t, i⟩⟩, L3⟩
   rcases c with _ | c
   ·exact nomatch (show none = some _ from L3)
   ·unfold law17_Acl_c1_L1 at L3
    try dsimp only at L3
    refine ZT 1 ?_
    refine Z0 ?_
    rcases ite_inv L3 with ⟨c26, H27⟩ | ⟨c26, H27⟩
    ·obtain ⟨g28, H29⟩ := grd_inv H27
     have g28 : ¬ (IntKind.u64.wrap i) < 0 := by have := of_decide_eq_true g28; omega
     refine Z1 (Y2 c26 g28) ?_
     rcases ite_inv H29 with ⟨c30, H31⟩ | ⟨c30, H31⟩
     ·obtain ⟨s4, b32, H33⟩ := bind_inv H31
      obtain ⟨h34, h35, h36, h37⟩ := bslc_inv b32
      have h38 : Int.toNat i ≤ Int.toNat (IntKind.i64.wrap (i + 1)) := by omega
      have h39 : Int.toNat (IntKind.i64.wrap (i + 1)) ≤ (ByteArray.size ({ data := #[114, 119, 120] })) := by omega
      have h40 : ByteArray.extract ({ data := #[114, 119, 120] }) (Int.toNat i) (Int.toNat (IntKind.i64.wrap (i + 1))) = s4 := h37.symm
      have h41 : Int.toNat (IntKind.i64.wrap (i + 1)) ≤ 3 := h39
      try simp only [Int.toNat_natCast] at h38 h41 h40
      obtain ⟨s5, b42, H43⟩ := bind_inv H33
      obtain ⟨h44, h45⟩ := cat_inv b42
      refine Z1 (Y2 (Y6 c26 g28 c30 (nat_of .i64 h34) (nat_of .i64 (Int.le_trans h34 h35)) h38) (Y4 h41 h40 h44 h45)) ?_
      exact ⟨⟨(c, (s5, (IntKind.i64.wrap (i + 1)))), H43⟩, ZR [], Nat.lt_succ_self _⟩
     ·obtain ⟨s6, b46, H47⟩ := bind_inv H31
      obtain ⟨h48, h49⟩ := cat_inv b46
      have h50 : t.size + 1 ≤ maxLen := h48
      refine Z1 (Y6 c26 g28 c30 h48 h49 h50) ?_
      exact ⟨⟨(c, (s6, (IntKind.i64.wrap (i + 1)))), H47⟩, ZR [], Nat.lt_succ_self _⟩
    ·refine Z1 c26 ?_
     obtain rfl := Zi H27
     exact ⟨⟨t, rfl⟩, ZR []⟩
 ·rintro ⟨t3, he51⟩
  replace he51 := he51.symm
  subst he51
  try dsimp only at H2
  refine ZT 1 ?_
  refine Z0 ?_
  obtain rfl := Zi H2
  exact ZE0
def law17_Acl (n : Nat) (t0 : Int) (t1 : Bool) : Option ByteArray :=
 (law17_Acl_c1 n t0).bind fun t9 =>
 (cat ({ data := #[117, 58, 58] }) t9).bind fun s =>
 (cat s ({ data := #[44, 103, 58, 58] })).bind fun s2 =>
 (law17_Acl_c1 n (sh t0 3)).bind fun t15 =>
 (cat s2 t15).bind fun s3 =>
 (cat s3 ({ data := #[44, 111, 58, 58] })).bind fun s4 =>
 (law17_Acl_c1 n (sh t0 6)).bind fun t21 =>
 (cat s4 t21).bind fun s5 =>
 (
  (if ((IntKind.i64.wrap (an (sh t0 9) 1 : Int)) == 1) then
   (cat s5 ({ data := #[44, 117, 58] })).bind fun s6 =>
   (idx ([{ data := #[117] }, { data := #[118] }, { data := #[119] }] : List ByteArray) (Int.tmod (IntKind.i64.wrap (an (sh t0 10) 255 : Int)) 3)).bind fun x =>
   (cat s6 x).bind fun s7 =>
   (cat s7 ({ data := #[58] })).bind fun s8 =>
   (law17_Acl_c1 n (sh t0 18)).bind fun t41 =>
   (cat s8 t41).bind fun s9 =>
   some s9
  else
   some s5) : Option (ByteArray)).bind fun t6 =>
 (
  (if ((IntKind.i64.wrap (an (sh t0 21) 1 : Int)) == 1) then
   (idx ([{ data := #[103] }, { data := #[104] }] : List ByteArray) (IntKind.i64.wrap (an (sh t0 22) 1 : Int))).bind fun x2 =>
   (cat ({ data := #[103, 58] }) x2).bind fun s10 =>
   (cat s10 ({ data := #[58] })).bind fun s11 =>
   (law17_Acl_c1 n (sh t0 23)).bind fun t58 =>
   (cat s11 t58).bind fun s12 =>
   (cat s12 ({ data := #[44] })).bind fun s13 =>
   (cat s13 t6).bind fun s14 =>
   some s14
  else
   some t6) : Option (ByteArray)).bind fun t62 =>
 (
  (if ((IntKind.i64.wrap (an (sh t0 26) 3 : Int)) == 0) then
   (cat t62 ({ data := #[44, 109, 58, 58] })).bind fun s15 =>
   (law17_Acl_c1 n (sh t0 28)).bind fun t72 =>
   (cat s15 t72).bind fun s16 =>
   some s16
  else
   some t62) : Option (ByteArray)).bind fun t63 =>
 (
  (if t1 then
   some ((IntKind.i64.wrap (an (sh t0 31) 1 : Int)) == 1)
  else
   some false) : Option (Bool)).bind fun t80 =>
 (if t80 then
  (cat t63 ({ data := #[44, 100, 58, 117, 58, 58] })).bind fun s17 =>
  (law17_Acl_c1 n (sh t0 32)).bind fun t86 =>
  (cat s17 t86).bind fun s18 =>
  (cat s18 ({ data := #[44, 100, 58, 103, 58, 58] })).bind fun s19 =>
  (law17_Acl_c1 n (sh t0 35)).bind fun t92 =>
  (cat s19 t92).bind fun s20 =>
  (cat s20 ({ data := #[44, 100, 58, 111, 58, 58] })).bind fun s21 =>
  (law17_Acl_c1 n (sh t0 38)).bind fun t98 =>
  (cat s21 t98).bind fun s22 =>
  (
   (if ((IntKind.i64.wrap (an (sh t0 41) 1 : Int)) == 1) then
    (cat s22 ({ data := #[44, 100, 58, 117, 58, 118, 58] })).bind fun s23 =>
    (law17_Acl_c1 n (sh t0 42)).bind fun t109 =>
    (cat s23 t109).bind fun s24 =>
    (cat s24 ({ data := #[44, 100, 58, 103, 58, 104, 58] })).bind fun s25 =>
    (law17_Acl_c1 n (sh t0 45)).bind fun t115 =>
    (cat s25 t115).bind fun s26 =>
    some s26
   else
    some s22) : Option (ByteArray)).bind fun t64 =>
  (if ((IntKind.i64.wrap (an (sh t0 48) 1 : Int)) == 1) then
   (cat t64 ({ data := #[44, 100, 58, 109, 58, 58] })).bind fun s27 =>
   (law17_Acl_c1 n (sh t0 49)).bind fun t126 =>
   (cat s27 t126).bind fun s28 =>
   some s28
  else
   some t64)
 else
  some t63)
set_option maxHeartbeats 8000000 in
theorem law17_Acl_ok {n : Nat} {t0 : Int} {t1 : Bool} {r : ByteArray} (H : law17_Acl n t0 t1 = some r) : PureOK Tryd.prog 12 [D.v (.int .i64 t0), D.v (.bool t1)] (D.v (.string r)) true := by
 unfold law17_Acl at H
 refine ZP tab_ok fol (rs := #[.tmp 4]) Tryd.func12 ?_
 refine runR_seq ?_
 refine ZT 1 ?_
 refine Z0 ?_
 refine runR_seq ?_
 refine ZT 1 ?_
 refine Z0 ?_
 refine runR_seq ?_
 refine ZT 1 ?_
 obtain ⟨t9, b1, H2⟩ := bind_inv H
 refine Z0 ?_
 refine ZC0 (law17_Acl_c1_ok b1) ?_
 obtain ⟨s, b3, H4⟩ := bind_inv H2
 obtain ⟨h5, h6⟩ := cat_inv b3
 have h7 : 3 + t9.size ≤ maxLen := h5
 obtain ⟨s2, b8, H9⟩ := bind_inv H4
 obtain ⟨h10, h11⟩ := cat_inv b8
 have h12 : s.size + 4 ≤ maxLen := h10
 obtain ⟨t15, b13, H14⟩ := bind_inv H9
 refine Z1 (Y6 h5 h6 h7 h10 h11 h12) ?_
 refine ZC0 (law17_Acl_c1_ok b13) ?_
 obtain ⟨s3, b15, H16⟩ := bind_inv H14
 obtain ⟨h17, h18⟩ := cat_inv b15
 obtain ⟨s4, b19, H20⟩ := bind_inv H16
 obtain ⟨h21, h22⟩ := cat_inv b19
 have h23 : s3.size + 4 ≤ maxLen := h21
 obtain ⟨t21, b24, H25⟩ := bind_inv H20
 refine Z1 (Y2 (Y6 h5 h6 h7 h10 h11 h12) (Y5 h17 h18 h21 h22 h23)) ?_
 refine ZC0 (law17_Acl_c1_ok b24) ?_
 obtain ⟨s5, b26, H27⟩ := bind_inv H25
 obtain ⟨h28, h29⟩ := cat_inv b26
 refine Z1 (Y3 (Y6 h5 h6 h7 h10 h11 h12) (Y6 h17 h18 h21 h22 h23 h28) h29) ?_
 refine runR_seq ?_
 refine runR_seq ?_
 refine ZT 1 ?_
 refine Z1 (Y3 (Y6 h5 h6 h7 h10 h11 h12) (Y6 h17 h18 h21 h22 h23 h28) h29) ?_
 obtain ⟨e_, E30, H31⟩ := bind_inv H27
 refine runR_join (α := { y : ByteArray // e_ = y }) (fun | ⟨t6, _⟩ => ⟨upd 0 (.v (.int .i64 t0)) (upd 1 (.v (.bool t1)) (upd 5 (.fn 30 []) (upd 6 (.v (.string t6)) noFr))), noHp, 0⟩) ?_ ?_
 ·refine ZT 1 ?_
  refine Z0 ?_
  rcases ite_inv E30 with ⟨c32, H33⟩ | ⟨c32, H33⟩
  ·obtain ⟨s6, b34, H35⟩ := bind_inv H33
   obtain ⟨h36, h37⟩ := cat_inv b34
   have h38 : s5.size + 3 ≤ maxLen := h36
   obtain ⟨x, b39, H40⟩ := bind_inv H35
   obtain ⟨h41, h42⟩ := idx_inv b39
   try simp only [Int.reduceToNat, Int.toNat_natCast] at h42
   have h43 := map_at eS h42
   simp only [List.map_cons, List.map_nil, eS] at h43
   have h44 := at_lt h42
   simp only [List.length_cons, List.length_nil, Nat.reduceAdd] at h44
   obtain ⟨s7, b45, H46⟩ := bind_inv H40
   obtain ⟨h47, h48⟩ := cat_inv b45
   obtain ⟨s8, b49, H50⟩ := bind_inv H46
   obtain ⟨h51, h52⟩ := cat_inv b49
   have h53 : s7.size + 1 ≤ maxLen := h51
   obtain ⟨t41, b54, H55⟩ := bind_inv H50
   refine Z1 (Y2 (Y6 c32 h36 h37 h38 (nat_of .i64 h41) h43) (Y6 h44 h47 h48 h51 h52 h53)) ?_
   refine ZD0 (law17_Acl_c1_ok b54) ?_
   obtain ⟨s9, b56, H57⟩ := bind_inv H55
   obtain ⟨h58, h59⟩ := cat_inv b56
   refine Z1 (Y3 (Y6 c32 h36 h37 h38 (nat_of .i64 h41) h43) (Y6 h44 h47 h48 h51 h52 h53) (Y2 h58 h59)) ?_
   refine Rd_endF (by rfl) ?_
   refine Z1 (Y3 (Y6 c32 h36 h37 h38 (nat_of .i64 h41) h43) (Y6 h44 h47 h48 h51 h52 h53) (Y2 h58 h59)) ?_
   obtain rfl := Zi H57
   exact ⟨⟨s9, rfl⟩, ZR []⟩
  ·refine Z1 c32 ?_
   obtain rfl := Zi H33
   exact ⟨⟨s5, rfl⟩, ZR []⟩
 ·rintro ⟨t6, he192⟩
  replace he192 := he192.symm
  subst he192
  try dsimp only at H31
  refine runR_seq ?_
  refine runR_seq ?_
  refine ZT 1 ?_
  refine Z0 ?_
  obtain ⟨e_2, E60, H61⟩ := bind_inv H31
  refine runR_join (α := { y : ByteArray // e_2 = y }) (fun | ⟨t62, _⟩ => ⟨upd 0 (.v (.int .i64 t0)) (upd 1 (.v (.bool t1)) (upd 5 (.fn 30 []) (upd 6 (.v (.string t62)) noFr))), noHp, 0⟩) ?_ ?_
  ·refine ZT 1 ?_
   refine Z0 ?_
   rcases ite_inv E60 with ⟨c62, H63⟩ | ⟨c62, H63⟩
   ·obtain ⟨x2, b64, H65⟩ := bind_inv H63
    obtain ⟨h66, h67⟩ := idx_inv b64
    try simp only [Int.reduceToNat, Int.toNat_natCast] at h67
    have h68 := map_at eS h67
    simp only [List.map_cons, List.map_nil, eS] at h68
    have h69 := at_lt h67
    simp only [List.length_cons, List.length_nil, Nat.reduceAdd] at h69
    obtain ⟨s10, b70, H71⟩ := bind_inv H65
    obtain ⟨h72, h73⟩ := cat_inv b70
    have h74 : 2 + x2.size ≤ maxLen := h72
    obtain ⟨s11, b75, H76⟩ := bind_inv H71
    obtain ⟨h77, h78⟩ := cat_inv b75
    have h79 : s10.size + 1 ≤ maxLen := h77
    obtain ⟨t58, b80, H81⟩ := bind_inv H76
    refine Z1 (Y2 (Y6 c62 (nat_of .i64 h66) h68 h69 h72 h73) (Y4 h74 h77 h78 h79)) ?_
    refine ZD0 (law17_Acl_c1_ok b80) ?_
    obtain ⟨s12, b82, H83⟩ := bind_inv H81
    obtain ⟨h84, h85⟩ := cat_inv b82
    obtain ⟨s13, b86, H87⟩ := bind_inv H83
    obtain ⟨h88, h89⟩ := cat_inv b86
    have h90 : s12.size + 1 ≤ maxLen := h88
    obtain ⟨s14, b91, H92⟩ := bind_inv H87
    obtain ⟨h93, h94⟩ := cat_inv b91
    refine Z1 (Y3 (Y6 c62 (nat_of .i64 h66) h68 h69 h72 h73) (Y6 h74 h77 h78 h79 h84 h85) (Y5 h88 h89 h90 h93 h94)) ?_
    refine Rd_endF (by rfl) ?_
    refine Z1 (Y3 (Y6 c62 (nat_of .i64 h66) h68 h69 h72 h73) (Y6 h74 h77 h78 h79 h84 h85) (Y5 h88 h89 h90 h93 h94)) ?_
    obtain rfl := Zi H92
    exact ⟨⟨s14, rfl⟩, ZR []⟩
   ·refine Z1 c62 ?_
    obtain rfl := Zi H63
    exact ⟨⟨t6, rfl⟩, ZR []⟩
  ·rintro ⟨t62, he191⟩
   replace he191 := he191.symm
   subst he191
   try dsimp only at H61
   refine runR_seq ?_
   refine runR_seq ?_
   refine ZT 1 ?_
   refine Z0 ?_
   obtain ⟨e_3, E95, H96⟩ := bind_inv H61
   refine runR_join (α := { y : ByteArray // e_3 = y }) (fun | ⟨t63, _⟩ => ⟨upd 0 (.v (.int .i64 t0)) (upd 1 (.v (.bool t1)) (upd 5 (.fn 30 []) (upd 6 (.v (.string t63)) noFr))), noHp, 0⟩) ?_ ?_
   ·refine ZT 1 ?_
    refine Z0 ?_
    rcases ite_inv E95 with ⟨c97, H98⟩ | ⟨c97, H98⟩
    ·obtain ⟨s15, b99, H100⟩ := bind_inv H98
     obtain ⟨h101, h102⟩ := cat_inv b99
     have h103 : t62.size + 4 ≤ maxLen := h101
     obtain ⟨t72, b104, H105⟩ := bind_inv H100
     refine Z1 (Y4 c97 h101 h102 h103) ?_
     refine ZC0 (law17_Acl_c1_ok b104) ?_
     obtain ⟨s16, b106, H107⟩ := bind_inv H105
     obtain ⟨h108, h109⟩ := cat_inv b106
     refine Z1 (Y6 c97 h101 h102 h103 h108 h109) ?_
     obtain rfl := Zi H107
     exact ⟨⟨s16, rfl⟩, ZR []⟩
    ·refine Z1 c97 ?_
     obtain rfl := Zi H98
     exact ⟨⟨t62, rfl⟩, ZR []⟩
   ·rintro ⟨t63, he190⟩
    replace he190 := he190.symm
    subst he190
    try dsimp only at H96
    refine runR_seq ?_
    refine runR_seq ?_
    obtain ⟨e_4, E110, H111⟩ := bind_inv H96
    refine runR_join (α := { y : Bool // e_4 = y }) (fun | ⟨t80, _⟩ => ⟨upd 0 (.v (.int .i64 t0)) (upd 5 (.fn 30 []) (upd 6 (.v (.string t63)) (upd 80 (.v (.bool t80)) noFr))), noHp, 0⟩) ?_ ?_
    ·refine ZT 1 ?_
     refine Z0 ?_
     rcases ite_inv E110 with ⟨c112, H113⟩ | ⟨c112, H113⟩
     ·refine Z1 c112 ?_
      obtain rfl := Zi H113
      exact ⟨⟨((IntKind.i64.wrap (an (sh t0 31) 1 : Int)) == 1), rfl⟩, ZR []⟩
     ·refine Z1 c112 ?_
      obtain rfl := Zi H113
      exact ⟨⟨false, rfl⟩, ZR []⟩
    ·rintro ⟨t80, he189⟩
     replace he189 := he189.symm
     subst he189
     try dsimp only at H111
     rcases ite_inv H111 with ⟨c114, H115⟩ | ⟨c114, H115⟩
     ·refine runR_condT (by rfl) c114 ?_
      refine Z1 c114 ?_
      refine runR_seq ?_
      refine ZT 1 ?_
      obtain ⟨s17, b116, H117⟩ := bind_inv H115
      obtain ⟨h118, h119⟩ := cat_inv b116
      have h120 : t63.size + 6 ≤ maxLen := h118
      obtain ⟨t86, b121, H122⟩ := bind_inv H117
      refine Z1 (Y4 c114 h118 h119 h120) ?_
      refine ZC0 (law17_Acl_c1_ok b121) ?_
      obtain ⟨s18, b123, H124⟩ := bind_inv H122
      obtain ⟨h125, h126⟩ := cat_inv b123
      obtain ⟨s19, b127, H128⟩ := bind_inv H124
      obtain ⟨h129, h130⟩ := cat_inv b127
      have h131 : s18.size + 6 ≤ maxLen := h129
      obtain ⟨t92, b132, H133⟩ := bind_inv H128
      refine Z1 (Y2 (Y6 c114 h118 h119 h120 h125 h126) (Y3 h129 h130 h131)) ?_
      refine ZC0 (law17_Acl_c1_ok b132) ?_
      obtain ⟨s20, b134, H135⟩ := bind_inv H133
      obtain ⟨h136, h137⟩ := cat_inv b134
      obtain ⟨s21, b138, H139⟩ := bind_inv H135
      obtain ⟨h140, h141⟩ := cat_inv b138
      have h142 : s20.size + 6 ≤ maxLen := h140
      obtain ⟨t98, b143, H144⟩ := bind_inv H139
      refine Z1 (Y3 (Y6 c114 h118 h119 h120 h125 h126) (Y6 h129 h130 h131 h136 h137 h140) (Y2 h141 h142)) ?_
      refine ZC0 (law17_Acl_c1_ok b143) ?_
      obtain ⟨s22, b145, H146⟩ := bind_inv H144
      obtain ⟨h147, h148⟩ := cat_inv b145
      refine Z1 (Y3 (Y6 c114 h118 h119 h120 h125 h126) (Y6 h129 h130 h131 h136 h137 h140) (Y4 h141 h142 h147 h148)) ?_
      refine runR_seq ?_
      refine runR_seq ?_
      refine ZT 1 ?_
      refine Z1 (Y3 (Y6 c114 h118 h119 h120 h125 h126) (Y6 h129 h130 h131 h136 h137 h140) (Y4 h141 h142 h147 h148)) ?_
      obtain ⟨e_5, E149, H150⟩ := bind_inv H146
      refine runR_join (α := { y : ByteArray // e_5 = y }) (fun | ⟨t64, _⟩ => ⟨upd 0 (.v (.int .i64 t0)) (upd 5 (.fn 30 []) (upd 6 (.v (.string t64)) noFr)), noHp, 0⟩) ?_ ?_
      ·refine ZT 1 ?_
       refine Z0 ?_
       rcases ite_inv E149 with ⟨c151, H152⟩ | ⟨c151, H152⟩
       ·obtain ⟨s23, b153, H154⟩ := bind_inv H152
        obtain ⟨h155, h156⟩ := cat_inv b153
        have h157 : s22.size + 7 ≤ maxLen := h155
        obtain ⟨t109, b158, H159⟩ := bind_inv H154
        refine Z1 (Y4 c151 h155 h156 h157) ?_
        refine ZC0 (law17_Acl_c1_ok b158) ?_
        obtain ⟨s24, b160, H161⟩ := bind_inv H159
        obtain ⟨h162, h163⟩ := cat_inv b160
        obtain ⟨s25, b164, H165⟩ := bind_inv H161
        obtain ⟨h166, h167⟩ := cat_inv b164
        have h168 : s24.size + 7 ≤ maxLen := h166
        obtain ⟨t115, b169, H170⟩ := bind_inv H165
        refine Z1 (Y2 (Y6 c151 h155 h156 h157 h162 h163) (Y3 h166 h167 h168)) ?_
        refine ZC0 (law17_Acl_c1_ok b169) ?_
        obtain ⟨s26, b171, H172⟩ := bind_inv H170
        obtain ⟨h173, h174⟩ := cat_inv b171
        refine Z1 (Y2 (Y6 c151 h155 h156 h157 h162 h163) (Y5 h166 h167 h168 h173 h174)) ?_
        obtain rfl := Zi H172
        exact ⟨⟨s26, rfl⟩, ZR []⟩
       ·refine Z1 c151 ?_
        obtain rfl := Zi H152
        exact ⟨⟨s22, rfl⟩, ZR []⟩
      ·rintro ⟨t64, he188⟩
       replace he188 := he188.symm
       subst he188
       try dsimp only at H150
       refine ZT 2 ?_
       refine Z0 ?_
       rcases ite_inv H150 with ⟨c175, H176⟩ | ⟨c175, H176⟩
       ·obtain ⟨s27, b177, H178⟩ := bind_inv H176
        obtain ⟨h179, h180⟩ := cat_inv b177
        have h181 : t64.size + 6 ≤ maxLen := h179
        obtain ⟨t126, b182, H183⟩ := bind_inv H178
        refine Z1 (Y4 c175 h179 h180 h181) ?_
        refine ZC0 (law17_Acl_c1_ok b182) ?_
        obtain ⟨s28, b184, H185⟩ := bind_inv H183
        obtain ⟨h186, h187⟩ := cat_inv b184
        refine Z1 (Y6 c175 h179 h180 h181 h186 h187) ?_
        obtain rfl := Zi H185
        exact ZE0
       ·refine Z1 c175 ?_
        obtain rfl := Zi H176
        exact ZE0
     ·refine runR_condF (by rfl) c114 ?_
      refine Z1 c114 ?_
      refine ZT 2 ?_
      refine Z1 c114 ?_
      obtain rfl := Zi H115
      exact ZE0
def law17_Base (n : Nat) (n_ : Int) : Option ByteArray :=
 (idx ([{ data := #[119] }, { data := #[118] }, { data := #[] }, { data := #[117, 32, 119] }] : List ByteArray) (IntKind.i64.wrap (an n_ 3 : Int))).bind fun x =>
 (cat ({ data := #[117, 115, 101, 114, 32, 117, 10, 117, 115, 101, 114, 32, 118, 10, 117, 115, 101, 114, 32, 119, 10, 103, 114, 111, 117, 112, 32, 103, 32, 117, 32, 118, 10, 103, 114, 111, 117, 112, 32, 104, 32] }) x).bind fun s =>
 (cat s ({ data := #[10, 100, 105, 114, 32, 47, 32, 117, 32, 103, 32] })).bind fun s2 =>
 (law17_Acl n (IntKind.i64.wrap ((BitVec.ofInt IntKind.i64.bits n_ ||| BitVec.ofInt IntKind.i64.bits 73).toNat : Int)) true).bind fun t12 =>
 (cat s2 t12).bind fun s3 =>
 (cat s3 ({ data := #[10, 100, 105, 114, 32, 47, 97, 32, 118, 32, 103, 32] })).bind fun s4 =>
 (law17_Acl n (sh n_ 5) true).bind fun t17 =>
 (cat s4 t17).bind fun s5 =>
 (cat s5 ({ data := #[10, 100, 105, 114, 32, 47, 97, 47, 99, 32, 119, 32, 104, 32] })).bind fun s6 =>
 (law17_Acl n (sh n_ 9) true).bind fun t22 =>
 (cat s6 t22).bind fun s7 =>
 (cat s7 ({ data := #[10, 102, 105, 108, 101, 32, 47, 102, 32, 118, 32, 104, 32] })).bind fun s8 =>
 (law17_Acl n (sh n_ 13) false).bind fun t27 =>
 (cat s8 t27).bind fun s9 =>
 (cat s9 ({ data := #[10, 102, 105, 108, 101, 32, 47, 97, 47, 102, 32, 119, 32, 103, 32] })).bind fun s10 =>
 (law17_Acl n (sh n_ 17) false).bind fun t32 =>
 (cat s10 t32).bind fun s11 =>
 (cat s11 ({ data := #[10, 102, 105, 108, 101, 32, 47, 97, 47, 99, 47, 102, 32, 117, 32, 104, 32] })).bind fun s12 =>
 (law17_Acl n (sh n_ 2) false).bind fun t37 =>
 (cat s12 t37).bind fun s13 =>
 (cat s13 ({ data := #[10] })).bind fun s14 =>
 some s14
set_option maxHeartbeats 8000000 in
theorem law17_Base_ok {n : Nat} {n_ : Int} {r : ByteArray} (H : law17_Base n n_ = some r) : PureOK Tryd.prog 21 [D.v (.int .i64 n_)] (D.v (.string r)) true := by
 unfold law17_Base at H
 refine ZP tab_ok fol (rs := #[.tmp 2]) Tryd.func21 ?_
 refine ZT 1 ?_
 obtain ⟨x, b1, H2⟩ := bind_inv H
 obtain ⟨h3, h4⟩ := idx_inv b1
 try simp only [Int.reduceToNat, Int.toNat_natCast] at h4
 have h5 := map_at eS h4
 simp only [List.map_cons, List.map_nil, eS] at h5
 have h6 := at_lt h4
 simp only [List.length_cons, List.length_nil, Nat.reduceAdd] at h6
 obtain ⟨s, b7, H8⟩ := bind_inv H2
 obtain ⟨h9, h10⟩ := cat_inv b7
 have h11 : 41 + x.size ≤ maxLen := h9
 obtain ⟨s2, b12, H13⟩ := bind_inv H8
 obtain ⟨h14, h15⟩ := cat_inv b12
 have h16 : s.size + 11 ≤ maxLen := h14
 obtain ⟨t12, b17, H18⟩ := bind_inv H13
 refine Z1 (Y2 (Y6 (nat_of .i64 h3) h5 h6 h9 h10 h11) (Y3 h14 h15 h16)) ?_
 refine ZD0 (law17_Acl_ok b17) ?_
 obtain ⟨s3, b19, H20⟩ := bind_inv H18
 obtain ⟨h21, h22⟩ := cat_inv b19
 obtain ⟨s4, b23, H24⟩ := bind_inv H20
 obtain ⟨h25, h26⟩ := cat_inv b23
 have h27 : s3.size + 12 ≤ maxLen := h25
 obtain ⟨t17, b28, H29⟩ := bind_inv H24
 refine Z1 (Y3 (Y6 (nat_of .i64 h3) h5 h6 h9 h10 h11) (Y6 h14 h15 h16 h21 h22 h25) (Y2 h26 h27)) ?_
 refine ZD0 (law17_Acl_ok b28) ?_
 obtain ⟨s5, b30, H31⟩ := bind_inv H29
 obtain ⟨h32, h33⟩ := cat_inv b30
 obtain ⟨s6, b34, H35⟩ := bind_inv H31
 obtain ⟨h36, h37⟩ := cat_inv b34
 have h38 : s5.size + 14 ≤ maxLen := h36
 obtain ⟨t22, b39, H40⟩ := bind_inv H35
 refine Z1 (Y4 (Y6 (nat_of .i64 h3) h5 h6 h9 h10 h11) (Y6 h14 h15 h16 h21 h22 h25) (Y6 h26 h27 h32 h33 h36 h37) h38) ?_
 refine ZD0 (law17_Acl_ok b39) ?_
 obtain ⟨s7, b41, H42⟩ := bind_inv H40
 obtain ⟨h43, h44⟩ := cat_inv b41
 obtain ⟨s8, b45, H46⟩ := bind_inv H42
 obtain ⟨h47, h48⟩ := cat_inv b45
 have h49 : s7.size + 13 ≤ maxLen := h47
 obtain ⟨t27, b50, H51⟩ := bind_inv H46
 refine Z1 (Y4 (Y6 (nat_of .i64 h3) h5 h6 h9 h10 h11) (Y6 h14 h15 h16 h21 h22 h25) (Y6 h26 h27 h32 h33 h36 h37) (Y6 h38 h43 h44 h47 h48 h49)) ?_
 refine ZD0 (law17_Acl_ok b50) ?_
 obtain ⟨s9, b52, H53⟩ := bind_inv H51
 obtain ⟨h54, h55⟩ := cat_inv b52
 obtain ⟨s10, b56, H57⟩ := bind_inv H53
 obtain ⟨h58, h59⟩ := cat_inv b56
 have h60 : s9.size + 15 ≤ maxLen := h58
 obtain ⟨t32, b61, H62⟩ := bind_inv H57
 refine Z1 (Y5 (Y6 (nat_of .i64 h3) h5 h6 h9 h10 h11) (Y6 h14 h15 h16 h21 h22 h25) (Y6 h26 h27 h32 h33 h36 h37) (Y6 h38 h43 h44 h47 h48 h49) (Y5 h54 h55 h58 h59 h60)) ?_
 refine ZD0 (law17_Acl_ok b61) ?_
 obtain ⟨s11, b63, H64⟩ := bind_inv H62
 obtain ⟨h65, h66⟩ := cat_inv b63
 obtain ⟨s12, b67, H68⟩ := bind_inv H64
 obtain ⟨h69, h70⟩ := cat_inv b67
 have h71 : s11.size + 17 ≤ maxLen := h69
 obtain ⟨t37, b72, H73⟩ := bind_inv H68
 refine Z1 (Y6 (Y6 (nat_of .i64 h3) h5 h6 h9 h10 h11) (Y6 h14 h15 h16 h21 h22 h25) (Y6 h26 h27 h32 h33 h36 h37) (Y6 h38 h43 h44 h47 h48 h49) (Y6 h54 h55 h58 h59 h60 h65) (Y4 h66 h69 h70 h71)) ?_
 refine ZD0 (law17_Acl_ok b72) ?_
 obtain ⟨s13, b74, H75⟩ := bind_inv H73
 obtain ⟨h76, h77⟩ := cat_inv b74
 obtain ⟨s14, b78, H79⟩ := bind_inv H75
 obtain ⟨h80, h81⟩ := cat_inv b78
 have h82 : s13.size + 1 ≤ maxLen := h80
 refine Z1 (Y2 (Y6 (Y6 (nat_of .i64 h3) h5 h6 h9 h10 h11) (Y6 h14 h15 h16 h21 h22 h25) (Y6 h26 h27 h32 h33 h36 h37) (Y6 h38 h43 h44 h47 h48 h49) (Y6 h54 h55 h58 h59 h60 h65) (Y6 h66 h69 h70 h71 h76 h77)) (Y3 h80 h81 h82)) ?_
 refine Rd_endF (by kernel_rfl) ?_
 refine Z1 (Y2 (Y6 (Y6 (nat_of .i64 h3) h5 h6 h9 h10 h11) (Y6 h14 h15 h16 h21 h22 h25) (Y6 h26 h27 h32 h33 h36 h37) (Y6 h38 h43 h44 h47 h48 h49) (Y6 h54 h55 h58 h59 h60 h65) (Y6 h66 h69 h70 h71 h76 h77)) (Y3 h80 h81 h82)) ?_
 obtain rfl := Zi H79
 exact ZE0
def law17_Line (n : Nat) (t0 : Int) : Option ByteArray :=
 (idx ([{ data := #[117] }, { data := #[118] }, { data := #[119] }] : List ByteArray) (Int.tmod (IntKind.i64.wrap (an t0 255 : Int)) 3)).bind fun x =>
 (idx ([{ data := #[103] }, { data := #[104] }] : List ByteArray) (IntKind.i64.wrap (an (sh t0 8) 1 : Int))).bind fun x2 =>
 (idx ([{ data := #[47] }, { data := #[47, 97] }, { data := #[47, 98] }, { data := #[47, 97, 47, 99] }, { data := #[47, 97, 47, 99, 47, 100] }] : List ByteArray) (Int.tmod (IntKind.i64.wrap (an (sh t0 9) 255 : Int)) 5)).bind fun x3 =>
 (
  (if ((Int.tmod (IntKind.i64.wrap (an (sh t0 17) 255 : Int)) 12) == 0) then
   some true
  else
   (if ((Int.tmod (IntKind.i64.wrap (an (sh t0 17) 255 : Int)) 12) == 1) then
    some true
   else
    (if ((Int.tmod (IntKind.i64.wrap (an (sh t0 17) 255 : Int)) 12) == 2) then
     some true
    else
     some ((Int.tmod (IntKind.i64.wrap (an (sh t0 17) 255 : Int)) 12) == 3)))) : Option (Bool)).bind fun t29 =>
 (if t29 then
  (cat ({ data := #[100, 105, 114, 32] }) x3).bind fun s =>
  (cat s ({ data := #[32] })).bind fun s2 =>
  (cat s2 x).bind fun s3 =>
  (cat s3 ({ data := #[32] })).bind fun s4 =>
  (cat s4 x2).bind fun s5 =>
  (cat s5 ({ data := #[32] })).bind fun s6 =>
  (law17_Acl n (sh t0 4) true).bind fun t45 =>
  (cat s6 t45).bind fun s7 =>
  some s7
 else
  (
   (if ((Int.tmod (IntKind.i64.wrap (an (sh t0 17) 255 : Int)) 12) == 4) then
    some true
   else
    (if ((Int.tmod (IntKind.i64.wrap (an (sh t0 17) 255 : Int)) 12) == 5) then
     some true
    else
     (if ((Int.tmod (IntKind.i64.wrap (an (sh t0 17) 255 : Int)) 12) == 6) then
      some true
     else
      some ((Int.tmod (IntKind.i64.wrap (an (sh t0 17) 255 : Int)) 12) == 7)))) : Option (Bool)).bind fun t47 =>
  (if t47 then
   (cat ({ data := #[102, 105, 108, 101, 32] }) x3).bind fun s8 =>
   (cat s8 ({ data := #[102, 32] })).bind fun s9 =>
   (cat s9 x).bind fun s10 =>
   (cat s10 ({ data := #[32] })).bind fun s11 =>
   (cat s11 x2).bind fun s12 =>
   (cat s12 ({ data := #[32] })).bind fun s13 =>
   (law17_Acl n (sh t0 5) false).bind fun t63 =>
   (cat s13 t63).bind fun s14 =>
   some s14
  else
   (if ((Int.tmod (IntKind.i64.wrap (an (sh t0 17) 255 : Int)) 12) == 8) then
    (cat ({ data := #[103, 114, 111, 117, 112, 32, 107, 32] }) x).bind fun s15 =>
    some s15
   else
    (if ((Int.tmod (IntKind.i64.wrap (an (sh t0 17) 255 : Int)) 12) == 9) then
     some ({ data := #[117, 115, 101, 114, 32, 120] })
    else
     (if ((Int.tmod (IntKind.i64.wrap (an (sh t0 17) 255 : Int)) 12) == 10) then
      (idx ([{ data := #[47, 102] }, { data := #[47, 97, 47, 102] }, { data := #[47, 98, 47, 102] }, { data := #[47, 97, 47, 99, 47, 102] }] : List ByteArray) (IntKind.i64.wrap (an (sh t0 9) 3 : Int))).bind fun x4 =>
      (cat ({ data := #[102, 105, 108, 101, 32] }) x4).bind fun s16 =>
      (cat s16 ({ data := #[32] })).bind fun s17 =>
      (cat s17 x).bind fun s18 =>
      (cat s18 ({ data := #[32] })).bind fun s19 =>
      (cat s19 x2).bind fun s20 =>
      (cat s20 ({ data := #[32] })).bind fun s21 =>
      (law17_Acl n (sh t0 6) ((IntKind.i64.wrap (an (sh t0 50) 7 : Int)) == 0)).bind fun t93 =>
      (cat s21 t93).bind fun s22 =>
      some s22
     else
      (idx ([{ data := #[117, 115, 101, 114] }, { data := #[117, 115, 101, 114, 32, 65] }, { data := #[100, 105, 114, 32, 97, 32, 117, 32, 103, 32, 117, 58, 58, 45, 45, 45] }, { data := #[100, 105, 114, 32, 47, 32, 117, 32, 103] }, { data := #[100, 105, 114, 32, 47, 32, 117, 32, 103, 32, 117, 58, 45, 45, 45] }, { data := #[102, 105, 108, 101, 32, 47, 97, 32, 117, 32, 103, 32, 117, 58, 58, 114, 119, 120, 120] }, { data := #[103, 114, 111, 117, 112] }, { data := #[100, 105, 114, 32, 47, 97, 47, 32, 117, 32, 103, 32, 117, 58, 58, 45, 45, 45] }] : List ByteArray) (IntKind.i64.wrap (an (sh t0 25) 7 : Int))).bind fun x5 =>
      some x5)))))
set_option maxHeartbeats 8000000 in
theorem law17_Line_ok {n : Nat} {t0 : Int} {r : ByteArray} (H : law17_Line n t0 = some r) : PureOK Tryd.prog 22 [D.v (.int .i64 t0)] (D.v (.string r)) true := by
 unfold law17_Line at H
 refine ZP tab_ok fol (rs := #[.tmp 2]) Tryd.func22 ?_
 refine runR_seq ?_
 refine ZT 1 ?_
 refine Z0 ?_
 refine runR_seq ?_
 refine ZT 1 ?_
 obtain ⟨x, b1, H2⟩ := bind_inv H
 obtain ⟨h3, h4⟩ := idx_inv b1
 try simp only [Int.reduceToNat, Int.toNat_natCast] at h4
 have h5 := map_at eS h4
 simp only [List.map_cons, List.map_nil, eS] at h5
 have h6 := at_lt h4
 simp only [List.length_cons, List.length_nil, Nat.reduceAdd] at h6
 obtain ⟨x2, b7, H8⟩ := bind_inv H2
 obtain ⟨h9, h10⟩ := idx_inv b7
 try simp only [Int.reduceToNat, Int.toNat_natCast] at h10
 have h11 := map_at eS h10
 simp only [List.map_cons, List.map_nil, eS] at h11
 have h12 := at_lt h10
 simp only [List.length_cons, List.length_nil, Nat.reduceAdd] at h12
 refine Z1 (Y6 (nat_of .i64 h3) h5 h6 (nat_of .i64 h9) h11 h12) ?_
 refine Rd_endF (by rfl) ?_
 refine Z1 (Y6 (nat_of .i64 h3) h5 h6 (nat_of .i64 h9) h11 h12) ?_
 refine runR_seq ?_
 refine ZT 1 ?_
 obtain ⟨x3, b13, H14⟩ := bind_inv H8
 obtain ⟨h15, h16⟩ := idx_inv b13
 try simp only [Int.reduceToNat, Int.toNat_natCast] at h16
 have h17 := map_at eS h16
 simp only [List.map_cons, List.map_nil, eS] at h17
 have h18 := at_lt h16
 simp only [List.length_cons, List.length_nil, Nat.reduceAdd] at h18
 refine Z1 (Y2 (Y6 (nat_of .i64 h3) h5 h6 (nat_of .i64 h9) h11 h12) (Y3 (nat_of .i64 h15) h17 h18)) ?_
 refine runR_seq ?_
 refine runR_seq ?_
 refine ZT 1 ?_
 refine Z1 (Y2 (Y6 (nat_of .i64 h3) h5 h6 (nat_of .i64 h9) h11 h12) (Y3 (nat_of .i64 h15) h17 h18)) ?_
 refine runR_block ?_
 refine runR_seq ?_
 refine runR_seq ?_
 refine ZT 1 ?_
 refine Z1 (Y2 (Y6 (nat_of .i64 h3) h5 h6 (nat_of .i64 h9) h11 h12) (Y3 (nat_of .i64 h15) h17 h18)) ?_
 obtain ⟨e_, E19, H20⟩ := bind_inv H14
 refine runR_join (α := { y : Bool // e_ = y }) (fun | ⟨t29, _⟩ => ⟨upd 0 (.v (.int .i64 t0)) (upd 3 (.v (.string x)) (upd 4 (.v (.string x2)) (upd 5 (.v (.string x3)) (upd 28 (.v (.int .i64 (Int.tmod (IntKind.i64.wrap (an (sh t0 17) 255 : Int)) 12))) (upd 29 (.v (.bool t29)) noFr))))), noHp, 0⟩) ?_ ?_
 ·refine ZT 1 ?_
  refine Z0 ?_
  rcases ite_inv E19 with ⟨c21, H22⟩ | ⟨c21, H22⟩
  ·refine Z1 c21 ?_
   obtain rfl := Zi H22
   exact ⟨⟨true, rfl⟩, ZR []⟩
  ·refine Z1 c21 ?_
   rcases ite_inv H22 with ⟨c23, H24⟩ | ⟨c23, H24⟩
   ·refine Z1 (Y2 c21 c23) ?_
    obtain rfl := Zi H24
    exact ⟨⟨true, rfl⟩, ZR []⟩
   ·refine Z1 (Y2 c21 c23) ?_
    rcases ite_inv H24 with ⟨c25, H26⟩ | ⟨c25, H26⟩
    ·refine Z1 (Y3 c21 c23 c25) ?_
     obtain rfl := Zi H26
     exact ⟨⟨true, rfl⟩, ZR []⟩
    ·refine Z1 (Y3 c21 c23 c25) ?_
     obtain rfl := Zi H26
     exact ⟨⟨((Int.tmod (IntKind.i64.wrap (an (sh t0 17) 255 : Int)) 12) == 3), rfl⟩, ZR []⟩
 ·rintro ⟨t29, he165⟩
  replace he165 := he165.symm
  subst he165
  try dsimp only at H20
  rcases ite_inv H20 with ⟨c27, H28⟩ | ⟨c27, H28⟩
  ·refine runR_condT (by rfl) c27 ?_
   refine Z1 c27 ?_
   refine ZT 3 ?_
   obtain ⟨s, b29, H30⟩ := bind_inv H28
   obtain ⟨h31, h32⟩ := cat_inv b29
   have h33 : 4 + x3.size ≤ maxLen := h31
   obtain ⟨s2, b34, H35⟩ := bind_inv H30
   obtain ⟨h36, h37⟩ := cat_inv b34
   have h38 : s.size + 1 ≤ maxLen := h36
   obtain ⟨s3, b39, H40⟩ := bind_inv H35
   obtain ⟨h41, h42⟩ := cat_inv b39
   obtain ⟨s4, b43, H44⟩ := bind_inv H40
   obtain ⟨h45, h46⟩ := cat_inv b43
   have h47 : s3.size + 1 ≤ maxLen := h45
   obtain ⟨s5, b48, H49⟩ := bind_inv H44
   obtain ⟨h50, h51⟩ := cat_inv b48
   obtain ⟨s6, b52, H53⟩ := bind_inv H49
   obtain ⟨h54, h55⟩ := cat_inv b52
   have h56 : s5.size + 1 ≤ maxLen := h54
   obtain ⟨t45, b57, H58⟩ := bind_inv H53
   refine Z1 (Y3 (Y6 c27 h31 h32 h33 h36 h37) (Y6 h38 h41 h42 h45 h46 h47) (Y5 h50 h51 h54 h55 h56)) ?_
   refine ZC0 (law17_Acl_ok b57) ?_
   obtain ⟨s7, b59, H60⟩ := bind_inv H58
   obtain ⟨h61, h62⟩ := cat_inv b59
   refine Z1 (Y4 (Y6 c27 h31 h32 h33 h36 h37) (Y6 h38 h41 h42 h45 h46 h47) (Y6 h50 h51 h54 h55 h56 h61) h62) ?_
   obtain rfl := Zi H60
   exact ZE0
  ·refine runR_condF (by rfl) c27 ?_
   refine Z1 c27 ?_
   refine runR_seq ?_
   refine runR_seq ?_
   refine ZT 1 ?_
   refine Z1 c27 ?_
   obtain ⟨e_2, E63, H64⟩ := bind_inv H28
   refine runR_join (α := { y : Bool // e_2 = y }) (fun | ⟨t47, _⟩ => ⟨upd 0 (.v (.int .i64 t0)) (upd 3 (.v (.string x)) (upd 4 (.v (.string x2)) (upd 5 (.v (.string x3)) (upd 28 (.v (.int .i64 (Int.tmod (IntKind.i64.wrap (an (sh t0 17) 255 : Int)) 12))) (upd 47 (.v (.bool t47)) noFr))))), noHp, 0⟩) ?_ ?_
   ·refine ZT 1 ?_
    refine Z0 ?_
    rcases ite_inv E63 with ⟨c65, H66⟩ | ⟨c65, H66⟩
    ·refine Z1 c65 ?_
     obtain rfl := Zi H66
     exact ⟨⟨true, rfl⟩, ZR []⟩
    ·refine Z1 c65 ?_
     rcases ite_inv H66 with ⟨c67, H68⟩ | ⟨c67, H68⟩
     ·refine Z1 (Y2 c65 c67) ?_
      obtain rfl := Zi H68
      exact ⟨⟨true, rfl⟩, ZR []⟩
     ·refine Z1 (Y2 c65 c67) ?_
      rcases ite_inv H68 with ⟨c69, H70⟩ | ⟨c69, H70⟩
      ·refine Z1 (Y3 c65 c67 c69) ?_
       obtain rfl := Zi H70
       exact ⟨⟨true, rfl⟩, ZR []⟩
      ·refine Z1 (Y3 c65 c67 c69) ?_
       obtain rfl := Zi H70
       exact ⟨⟨((Int.tmod (IntKind.i64.wrap (an (sh t0 17) 255 : Int)) 12) == 7), rfl⟩, ZR []⟩
   ·rintro ⟨t47, he164⟩
    replace he164 := he164.symm
    subst he164
    try dsimp only at H64
    refine ZT 3 ?_
    refine Z0 ?_
    rcases ite_inv H64 with ⟨c71, H72⟩ | ⟨c71, H72⟩
    ·obtain ⟨s8, b73, H74⟩ := bind_inv H72
     obtain ⟨h75, h76⟩ := cat_inv b73
     have h77 : 5 + x3.size ≤ maxLen := h75
     obtain ⟨s9, b78, H79⟩ := bind_inv H74
     obtain ⟨h80, h81⟩ := cat_inv b78
     have h82 : s8.size + 2 ≤ maxLen := h80
     obtain ⟨s10, b83, H84⟩ := bind_inv H79
     obtain ⟨h85, h86⟩ := cat_inv b83
     obtain ⟨s11, b87, H88⟩ := bind_inv H84
     obtain ⟨h89, h90⟩ := cat_inv b87
     have h91 : s10.size + 1 ≤ maxLen := h89
     obtain ⟨s12, b92, H93⟩ := bind_inv H88
     obtain ⟨h94, h95⟩ := cat_inv b92
     obtain ⟨s13, b96, H97⟩ := bind_inv H93
     obtain ⟨h98, h99⟩ := cat_inv b96
     have h100 : s12.size + 1 ≤ maxLen := h98
     obtain ⟨t63, b101, H102⟩ := bind_inv H97
     refine Z1 (Y3 (Y6 c71 h75 h76 h77 h80 h81) (Y6 h82 h85 h86 h89 h90 h91) (Y5 h94 h95 h98 h99 h100)) ?_
     refine ZC0 (law17_Acl_ok b101) ?_
     obtain ⟨s14, b103, H104⟩ := bind_inv H102
     obtain ⟨h105, h106⟩ := cat_inv b103
     refine Z1 (Y4 (Y6 c71 h75 h76 h77 h80 h81) (Y6 h82 h85 h86 h89 h90 h91) (Y6 h94 h95 h98 h99 h100 h105) h106) ?_
     obtain rfl := Zi H104
     exact ZE0
    ·refine Z1 c71 ?_
     rcases ite_inv H72 with ⟨c107, H108⟩ | ⟨c107, H108⟩
     ·obtain ⟨s15, b109, H110⟩ := bind_inv H108
      obtain ⟨h111, h112⟩ := cat_inv b109
      have h113 : 8 + x.size ≤ maxLen := h111
      refine Z1 (Y5 c71 c107 h111 h112 h113) ?_
      obtain rfl := Zi H110
      exact ZE0
     ·refine Z1 (Y2 c71 c107) ?_
      rcases ite_inv H108 with ⟨c114, H115⟩ | ⟨c114, H115⟩
      ·refine Z1 (Y3 c71 c107 c114) ?_
       obtain rfl := Zi H115
       exact ZE0
      ·refine Z1 (Y3 c71 c107 c114) ?_
       rcases ite_inv H115 with ⟨c116, H117⟩ | ⟨c116, H117⟩
       ·obtain ⟨x4, b118, H119⟩ := bind_inv H117
        obtain ⟨h120, h121⟩ := idx_inv b118
        try simp only [Int.reduceToNat, Int.toNat_natCast] at h121
        have h122 := map_at eS h121
        simp only [List.map_cons, List.map_nil, eS] at h122
        have h123 := at_lt h121
        simp only [List.length_cons, List.length_nil, Nat.reduceAdd] at h123
        obtain ⟨s16, b124, H125⟩ := bind_inv H119
        obtain ⟨h126, h127⟩ := cat_inv b124
        have h128 : 5 + x4.size ≤ maxLen := h126
        obtain ⟨s17, b129, H130⟩ := bind_inv H125
        obtain ⟨h131, h132⟩ := cat_inv b129
        have h133 : s16.size + 1 ≤ maxLen := h131
        obtain ⟨s18, b134, H135⟩ := bind_inv H130
        obtain ⟨h136, h137⟩ := cat_inv b134
        obtain ⟨s19, b138, H139⟩ := bind_inv H135
        obtain ⟨h140, h141⟩ := cat_inv b138
        have h142 : s18.size + 1 ≤ maxLen := h140
        obtain ⟨s20, b143, H144⟩ := bind_inv H139
        obtain ⟨h145, h146⟩ := cat_inv b143
        obtain ⟨s21, b147, H148⟩ := bind_inv H144
        obtain ⟨h149, h150⟩ := cat_inv b147
        have h151 : s20.size + 1 ≤ maxLen := h149
        obtain ⟨t93, b152, H153⟩ := bind_inv H148
        refine Z1 (Y4 (Y6 c71 c107 c114 c116 (nat_of .i64 h120) h122) (Y6 h123 h126 h127 h128 h131 h132) (Y6 h133 h136 h137 h140 h141 h142) (Y5 h145 h146 h149 h150 h151)) ?_
        refine ZD0 (law17_Acl_ok b152) ?_
        obtain ⟨s22, b154, H155⟩ := bind_inv H153
        obtain ⟨h156, h157⟩ := cat_inv b154
        refine Z1 (Y5 (Y6 c71 c107 c114 c116 (nat_of .i64 h120) h122) (Y6 h123 h126 h127 h128 h131 h132) (Y6 h133 h136 h137 h140 h141 h142) (Y6 h145 h146 h149 h150 h151 h156) h157) ?_
        refine Rd_endF (by rfl) ?_
        refine Z1 (Y5 (Y6 c71 c107 c114 c116 (nat_of .i64 h120) h122) (Y6 h123 h126 h127 h128 h131 h132) (Y6 h133 h136 h137 h140 h141 h142) (Y6 h145 h146 h149 h150 h151 h156) h157) ?_
        obtain rfl := Zi H155
        exact ZE0
       ·obtain ⟨x5, b158, H159⟩ := bind_inv H117
        obtain ⟨h160, h161⟩ := idx_inv b158
        try simp only [Int.reduceToNat, Int.toNat_natCast] at h161
        have h162 := map_at eS h161
        simp only [List.map_cons, List.map_nil, eS] at h162
        have h163 := at_lt h161
        simp only [List.length_cons, List.length_nil, Nat.reduceAdd] at h163
        refine Z1 (Y2 (Y6 c71 c107 c114 c116 (nat_of .i64 h160) h162) h163) ?_
        obtain rfl := Zi H159
        exact ZE0
def law17_File_L1 (n : Nat) (l : List Int) : Nat → (ByteArray × Int) → Option (ByteArray)
 | 0, _ => none
 | c + 1, (s4, i) =>
  (
   (if (decide (i < (l.length : Int))) then
    some (decide (i < 20))
   else
    some false) : Option (Bool)).bind fun t242 =>
  (if t242 then
   (idx l i).bind fun x3 =>
   (law17_Line n x3).bind fun t322 =>
   (cat s4 t322).bind fun s5 =>
   (cat s5 ({ data := #[10] })).bind fun s6 =>
   law17_File_L1 n l c (s6, (IntKind.i64.wrap (i + 1)))
  else
   some s4)
def law17_File (n : Nat) (l : List Int) (whole : Bool) : Option ByteArray :=
 (
  (if whole then
   (if (decide (0 < (l.length : Int))) then
    (idx l 0).bind fun x =>
    (law17_Base n x).bind fun t16 =>
    some t16
   else
    (law17_Base n 388058199295).bind fun t162 =>
    some t162)
  else
   some ({ data := #[] })) : Option (ByteArray)).bind fun s =>
 (
  law17_File_L1 n l n (s, 0) : Option (ByteArray)).bind fun s8 =>
 some s8
set_option maxHeartbeats 8000000 in
theorem law17_File_ok {n : Nat} {l : List Int} {whole : Bool} {r : ByteArray} (H : law17_File n l whole = some r) : PureOK Tryd.prog 9 [D.sl (List.map eI l), D.v (.bool whole)] (D.v (.string r)) true := by
 unfold law17_File at H
 refine ZP tab_ok fol (rs := #[.tmp 4]) Tryd.func9 ?_
 refine runR_seq ?_
 refine ZT 1 ?_
 refine Z0 ?_
 refine runR_seq ?_
 refine ZT 1 ?_
 refine Z0 ?_
 refine runR_seq ?_
 refine runR_seq ?_
 refine ZT 1 ?_
 refine Z0 ?_
 obtain ⟨e_, E1, H2⟩ := bind_inv H
 refine runR_join (α := { y : ByteArray // e_ = y }) (fun | ⟨s, _⟩ => ⟨upd 0 (.d (.sl (List.map eI l)) true) (upd 5 (.v (.string s)) noFr), noHp, 0⟩) ?_ ?_
 ·refine ZT 1 ?_
  refine Z0 ?_
  rcases ite_inv E1 with ⟨c3, H4⟩ | ⟨c3, H4⟩
  ·refine Z1 c3 ?_
   rcases ite_inv H4 with ⟨c5, H6⟩ | ⟨c5, H6⟩
   ·obtain ⟨x, b7, H8⟩ := bind_inv H6
    obtain ⟨h9, h10⟩ := idx_inv b7
    try simp only [Int.reduceToNat, Int.toNat_natCast] at h10
    have h11 := map_at eI h10
    obtain ⟨t16, b13, H14⟩ := bind_inv H8
    refine Z1 (Y4 c3 c5 (nat_of .i64 h9) h11) ?_
    refine ZC0 (law17_Base_ok b13) ?_
    refine Z1 (Y4 c3 c5 (nat_of .i64 h9) h11) ?_
    obtain rfl := Zi H14
    exact ⟨⟨t16, rfl⟩, ZR []⟩
   ·obtain ⟨t162, b15, H16⟩ := bind_inv H6
    refine Z1 (Y2 c3 c5) ?_
    refine ZC0 (law17_Base_ok b15) ?_
    refine Z1 (Y2 c3 c5) ?_
    obtain rfl := Zi H16
    exact ⟨⟨t162, rfl⟩, ZR []⟩
  ·refine Z1 c3 ?_
   obtain rfl := Zi H4
   exact ⟨⟨{ data := #[] }, rfl⟩, ZR []⟩
 ·rintro ⟨s, he69⟩
  replace he69 := he69.symm
  subst he69
  try dsimp only at H2
  refine runR_seq ?_
  refine runR_seq ?_
  refine ZT 1 ?_
  refine Z0 ?_
  obtain ⟨e_2, E17, H18⟩ := bind_inv H2
  refine runR_join (α := { y : ByteArray // e_2 = y }) (fun | ⟨s8, _⟩ => ⟨upd 5 (.v (.string s8)) noFr, noHp, 0⟩) ?_ ?_
  ·refine runR_block ?_
   refine runR_loop (α := { q : Nat × (ByteArray × Int) // law17_File_L1 n l q.1 q.2 = some e_2 }) (fun | ⟨⟨c, ⟨s4, i⟩⟩, _⟩ => ⟨upd 0 (.d (.sl (List.map eI l)) true) (upd 5 (.v (.string s4)) (upd 7 (.v (.int .i64 i)) noFr)), noHp, 0⟩) (fun q => q.1.1) ⟨(n, (s, 0)), E17⟩ ?_ ?_
   ·exact ZR []
   ·rintro ⟨⟨c, ⟨s4, i⟩⟩, L19⟩
    rcases c with _ | c
    ·exact nomatch (show none = some _ from L19)
    ·unfold law17_File_L1 at L19
     try dsimp only at L19
     refine runR_seq ?_
     refine runR_seq ?_
     obtain ⟨e_4, E44, H45⟩ := bind_inv L19
     refine runR_join (α := { y : Bool // e_4 = y }) (fun | ⟨t242, _⟩ => ⟨upd 0 (.d (.sl (List.map eI l)) true) (upd 5 (.v (.string s4)) (upd 7 (.v (.int .i64 i)) (upd 24 (.v (.bool t242)) noFr))), noHp, 0⟩) ?_ ?_
     ·refine ZT 1 ?_
      refine Z0 ?_
      rcases ite_inv E44 with ⟨c46, H47⟩ | ⟨c46, H47⟩
      ·refine Z1 c46 ?_
       obtain rfl := Zi H47
       exact ⟨⟨(decide (i < 20)), rfl⟩, ZR []⟩
      ·refine Z1 c46 ?_
       obtain rfl := Zi H47
       exact ⟨⟨false, rfl⟩, ZR []⟩
     ·rintro ⟨t242, he67⟩
      replace he67 := he67.symm
      subst he67
      try dsimp only at H45
      refine ZT 2 ?_
      refine Z0 ?_
      rcases ite_inv H45 with ⟨c48, H49⟩ | ⟨c48, H49⟩
      ·obtain ⟨x3, b50, H51⟩ := bind_inv H49
       obtain ⟨h52, h53⟩ := idx_inv b50
       try simp only [Int.reduceToNat, Int.toNat_natCast] at h53
       have h54 := map_at eI h53
       obtain ⟨t322, b56, H57⟩ := bind_inv H51
       refine Z1 (Y3 c48 (nat_of .i64 h52) h54) ?_
       refine ZC0 (law17_Line_ok b56) ?_
       obtain ⟨s5, b58, H59⟩ := bind_inv H57
       obtain ⟨h60, h61⟩ := cat_inv b58
       obtain ⟨s6, b62, H63⟩ := bind_inv H59
       obtain ⟨h64, h65⟩ := cat_inv b62
       have h66 : s5.size + 1 ≤ maxLen := h64
       refine Z1 (Y2 (Y6 c48 (nat_of .i64 h52) h54 h60 h61 h64) (Y2 h65 h66)) ?_
       exact ⟨⟨(c, (s6, (IntKind.i64.wrap (i + 1)))), H63⟩, ZR [], Nat.lt_succ_self _⟩
      ·refine Z1 c48 ?_
       obtain rfl := Zi H49
       exact ⟨⟨s4, rfl⟩, ZR []⟩
  ·rintro ⟨s8, he68⟩
   replace he68 := he68.symm
   subst he68
   try dsimp only at H18
   refine ZT 1 ?_
   refine Z0 ?_
   obtain rfl := Zi H18
   exact ZE0
def ref1_SameTexts_L1 (n : Nat) (a : List ByteArray) (b : List ByteArray) : Nat → Int → Option ((Unit) ⊕ Bool)
 | 0, _ => none
 | c + 1, i =>
  (if (decide (i < (a.length : Int))) then
   (idx a i).bind fun x3 =>
   (idx b i).bind fun x4 =>
   (if (x3.toList == x4.toList) then
    ref1_SameTexts_L1 n a b c (IntKind.i64.wrap (i + 1))
   else
    some (.inr false))
  else
   some (.inl ()))
def ref1_SameTexts (n : Nat) (a : List ByteArray) (b : List ByteArray) : Option Bool :=
 (if ((a.length : Int) != (b.length : Int)) then
  some false
 else
  (
   ref1_SameTexts_L1 n a b n 0 : Option ((Unit) ⊕ Bool)).bind fun
   | .inl _ =>
    some true
   | .inr r => some r)
theorem ref1_SameTexts_ok {n : Nat} {a : List ByteArray} {b : List ByteArray} {r : Bool} (H : ref1_SameTexts n a b = some r) : PureOK Tryd.prog 28 [D.sl (List.map eS a), D.sl (List.map eS b)] (D.v (.bool r)) true := by
 unfold ref1_SameTexts at H
 refine ZP tab_ok fol (rs := #[.tmp 4]) Tryd.func28 ?_
 refine runR_seq ?_
 refine ZT 1 ?_
 refine Z0 ?_
 refine runR_seq ?_
 refine ZT 1 ?_
 refine Z0 ?_
 rcases ite_inv H with ⟨c1, H2⟩ | ⟨c1, H2⟩
 ·refine Z1 c1 ?_
  obtain rfl := Zi H2
  exact ZE0
 ·refine Z1 c1 ?_
  refine runR_seq ?_
  refine runR_seq ?_
  refine ZT 1 ?_
  refine Z1 c1 ?_
  obtain ⟨e_, E3, H4⟩ := bind_inv H2
  refine runR_join (α := { y : Unit // e_ = .inl y }) (fun | ⟨_, _⟩ => ⟨noFr, noHp, 0⟩) ?_ ?_
  ·refine runR_block ?_
   refine runR_loop (α := { q : Nat × Int // ref1_SameTexts_L1 n a b q.1 q.2 = some e_ }) (fun | ⟨⟨c, i⟩, _⟩ => ⟨upd 0 (.d (.sl (List.map eS a)) true) (upd 1 (.d (.sl (List.map eS b)) true) (upd 5 (.v (.int .i64 i)) noFr)), noHp, 0⟩) (fun q => q.1.1) ⟨(n, 0), E3⟩ ?_ ?_
   ·exact ZR []
   ·rintro ⟨⟨c, i⟩, L5⟩
    rcases c with _ | c
    ·exact nomatch (show none = some _ from L5)
    ·unfold ref1_SameTexts_L1 at L5
     try dsimp only at L5
     refine ZT 1 ?_
     refine Z0 ?_
     rcases ite_inv L5 with ⟨c22, H23⟩ | ⟨c22, H23⟩
     ·obtain ⟨x3, b24, H25⟩ := bind_inv H23
      obtain ⟨h26, h27⟩ := idx_inv b24
      try simp only [Int.reduceToNat, Int.toNat_natCast] at h27
      have h28 := map_at eS h27
      obtain ⟨x4, b30, H31⟩ := bind_inv H25
      obtain ⟨h32, h33⟩ := idx_inv b30
      try simp only [Int.reduceToNat, Int.toNat_natCast] at h33
      have h34 := map_at eS h33
      refine Z1 (Y5 c22 (nat_of .i64 h26) h28 (nat_of .i64 h32) h34) ?_
      refine Rd_endF (by rfl) ?_
      refine Z1 (Y5 c22 (nat_of .i64 h26) h28 (nat_of .i64 h32) h34) ?_
      rcases ite_inv H31 with ⟨c36, H37⟩ | ⟨c36, H37⟩
      ·refine Z1 (Y6 c22 (nat_of .i64 h26) h28 (nat_of .i64 h32) h34 c36) ?_
       exact ⟨⟨(c, (IntKind.i64.wrap (i + 1))), H37⟩, ZR [], Nat.lt_succ_self _⟩
      ·refine Z1 (Y6 c22 (nat_of .i64 h26) h28 (nat_of .i64 h32) h34 c36) ?_
       obtain rfl := Zi H37
       obtain rfl := Zi H4
       exact ZE0
     ·refine Z1 c22 ?_
      obtain rfl := Zi H23
      exact ⟨⟨(), rfl⟩, ZR []⟩
  ·rintro ⟨_, he38⟩
   replace he38 := he38.symm
   subst he38
   try dsimp only at H4
   refine ZT 1 ?_
   refine Z0 ?_
   obtain rfl := Zi H4
   exact ZE0
def ref17_SameAcl_L1 (n : Nat) (a : List GEntry) (b : List GEntry) : Nat → Int → Option ((Unit) ⊕ Bool)
 | 0, _ => none
 | c + 1, i =>
  (if (decide (i < (a.length : Int))) then
   (idx a i).bind fun x3 =>
   (idx b i).bind fun x4 =>
   (if ((x3.kind == x4.kind) && ((x3.default == x4.default) && ((x3.name == x4.name) && (x3.bits == x4.bits)))) then
    ref17_SameAcl_L1 n a b c (IntKind.i64.wrap (i + 1))
   else
    some (.inr false))
  else
   some (.inl ()))
def ref17_SameAcl (n : Nat) (a : List GEntry) (b : List GEntry) : Option Bool :=
 (if ((a.length : Int) != (b.length : Int)) then
  some false
 else
  (
   ref17_SameAcl_L1 n a b n 0 : Option ((Unit) ⊕ Bool)).bind fun
   | .inl _ =>
    some true
   | .inr r => some r)
theorem ref17_SameAcl_ok {n : Nat} {a : List GEntry} {b : List GEntry} {r : Bool} (H : ref17_SameAcl n a b = some r) : PureOK Tryd.prog 29 [D.sl (List.map eGEntry a), D.sl (List.map eGEntry b)] (D.v (.bool r)) true := by
 unfold ref17_SameAcl at H
 refine ZP tab_ok fol (rs := #[.tmp 4]) Tryd.func29 ?_
 refine runR_seq ?_
 refine ZT 1 ?_
 refine Z0 ?_
 refine runR_seq ?_
 refine ZT 1 ?_
 refine Z0 ?_
 rcases ite_inv H with ⟨c1, H2⟩ | ⟨c1, H2⟩
 ·refine Z1 c1 ?_
  obtain rfl := Zi H2
  exact ZE0
 ·refine Z1 c1 ?_
  refine runR_seq ?_
  refine runR_seq ?_
  refine ZT 1 ?_
  refine Z1 c1 ?_
  obtain ⟨e_, E3, H4⟩ := bind_inv H2
  refine runR_join (α := { y : Unit // e_ = .inl y }) (fun | ⟨_, _⟩ => ⟨noFr, noHp, 0⟩) ?_ ?_
  ·refine runR_block ?_
   refine runR_loop (α := { q : Nat × Int // ref17_SameAcl_L1 n a b q.1 q.2 = some e_ }) (fun | ⟨⟨c, i⟩, _⟩ => ⟨upd 0 (.d (.sl (List.map eGEntry a)) true) (upd 1 (.d (.sl (List.map eGEntry b)) true) (upd 5 (.v (.int .i64 i)) noFr)), noHp, 0⟩) (fun q => q.1.1) ⟨(n, 0), E3⟩ ?_ ?_
   ·exact ZR []
   ·rintro ⟨⟨c, i⟩, L5⟩
    rcases c with _ | c
    ·exact nomatch (show none = some _ from L5)
    ·unfold ref17_SameAcl_L1 at L5
     try dsimp only at L5
     refine ZT 1 ?_
     refine Z0 ?_
     rcases ite_inv L5 with ⟨c22, H23⟩ | ⟨c22, H23⟩
     ·obtain ⟨x3, b24, H25⟩ := bind_inv H23
      obtain ⟨h26, h27⟩ := idx_inv b24
      try simp only [Int.reduceToNat, Int.toNat_natCast] at h27
      have h28 := map_at eGEntry h27
      obtain ⟨x4, b30, H31⟩ := bind_inv H25
      obtain ⟨h32, h33⟩ := idx_inv b30
      try simp only [Int.reduceToNat, Int.toNat_natCast] at h33
      have h34 := map_at eGEntry h33
      refine Z1 (Y5 c22 (nat_of .i64 h26) h28 (nat_of .i64 h32) h34) ?_
      refine Rd_endF (by rfl) ?_
      refine Z1 (Y5 c22 (nat_of .i64 h26) h28 (nat_of .i64 h32) h34) ?_
      rcases ite_inv H31 with ⟨c36, H37⟩ | ⟨c36, H37⟩
      ·refine Z1 (Y6 c22 (nat_of .i64 h26) h28 (nat_of .i64 h32) h34 c36) ?_
       exact ⟨⟨(c, (IntKind.i64.wrap (i + 1))), H37⟩, ZR [], Nat.lt_succ_self _⟩
      ·refine Z1 (Y6 c22 (nat_of .i64 h26) h28 (nat_of .i64 h32) h34 c36) ?_
       obtain rfl := Zi H37
       obtain rfl := Zi H4
       exact ZE0
     ·refine Z1 c22 ?_
      obtain rfl := Zi H23
      exact ⟨⟨(), rfl⟩, ZR []⟩
  ·rintro ⟨_, he38⟩
   replace he38 := he38.symm
   subst he38
   try dsimp only at H4
   refine ZT 1 ?_
   refine Z0 ?_
   obtain rfl := Zi H4
   exact ZE0
def ref17_Same_L1 (n : Nat) (t0 : List GFile) (t1 : List GFile) : Nat → Int → Option ((Unit) ⊕ Bool)
 | 0, _ => none
 | c + 1, t5 =>
  (if (decide (t5 < (t0.length : Int))) then
   (idx t0 t5).bind fun x3 =>
   (idx t1 t5).bind fun x4 =>
   (if (x3.kind != x4.kind) then
    some (.inr false)
   else
    (if (x3.name.toList == x4.name.toList) then
     (if (x3.owner.toList == x4.owner.toList) then
      (if (x3.group.toList == x4.group.toList) then
       (ref1_SameTexts n x3.users x4.users).bind fun t582 =>
       (if t582 then
        (ref17_SameAcl n x3.acl x4.acl).bind fun t662 =>
        (if t662 then
         ref17_Same_L1 n t0 t1 c (IntKind.i64.wrap (t5 + 1))
        else
         some (.inr false))
       else
        some (.inr false))
      else
       some (.inr false))
     else
      some (.inr false))
    else
     some (.inr false)))
  else
   some (.inl ()))
def ref17_Same (n : Nat) (t0 : List GFile) (t1 : List GFile) : Option Bool :=
 (if ((t0.length : Int) != (t1.length : Int)) then
  some false
 else
  (
   ref17_Same_L1 n t0 t1 n 0 : Option ((Unit) ⊕ Bool)).bind fun
   | .inl _ =>
    some true
   | .inr r => some r)
theorem ref17_Same_ok {n : Nat} {t0 : List GFile} {t1 : List GFile} {r : Bool} (H : ref17_Same n t0 t1 = some r) : PureOK Tryd.prog 11 [D.sl (List.map eGFile t0), D.sl (List.map eGFile t1)] (D.v (.bool r)) true := by
 unfold ref17_Same at H
 refine ZP tab_ok fol (rs := #[.tmp 4]) Tryd.func11 ?_
 refine runR_seq ?_
 refine ZT 1 ?_
 refine Z0 ?_
 refine runR_seq ?_
 refine ZT 1 ?_
 refine Z0 ?_
 rcases ite_inv H with ⟨c1, H2⟩ | ⟨c1, H2⟩
 ·refine Z1 c1 ?_
  obtain rfl := Zi H2
  exact ZE0
 ·refine Z1 c1 ?_
  refine runR_seq ?_
  refine runR_seq ?_
  refine ZT 1 ?_
  refine Z1 c1 ?_
  obtain ⟨e_, E3, H4⟩ := bind_inv H2
  refine runR_join (α := { y : Unit // e_ = .inl y }) (fun | ⟨_, _⟩ => ⟨noFr, noHp, 0⟩) ?_ ?_
  ·refine runR_block ?_
   refine runR_loop (α := { q : Nat × Int // ref17_Same_L1 n t0 t1 q.1 q.2 = some e_ }) (fun | ⟨⟨c, t5⟩, _⟩ => ⟨upd 0 (.d (.sl (List.map eGFile t0)) true) (upd 1 (.d (.sl (List.map eGFile t1)) true) (upd 5 (.v (.int .i64 t5)) noFr)), noHp, 0⟩) (fun q => q.1.1) ⟨(n, 0), E3⟩ ?_ ?_
   ·exact ZR []
   ·rintro ⟨⟨c, t5⟩, L5⟩
    rcases c with _ | c
    ·exact nomatch (show none = some _ from L5)
    ·unfold ref17_Same_L1 at L5
     try dsimp only at L5
     refine ZT 1 ?_
     refine Z0 ?_
     rcases ite_inv L5 with ⟨c36, H37⟩ | ⟨c36, H37⟩
     ·obtain ⟨x3, b38, H39⟩ := bind_inv H37
      obtain ⟨h40, h41⟩ := idx_inv b38
      try simp only [Int.reduceToNat, Int.toNat_natCast] at h41
      have h42 := map_at eGFile h41
      obtain ⟨x4, b44, H45⟩ := bind_inv H39
      obtain ⟨h46, h47⟩ := idx_inv b44
      try simp only [Int.reduceToNat, Int.toNat_natCast] at h47
      have h48 := map_at eGFile h47
      refine Z1 (Y5 c36 (nat_of .i64 h40) h42 (nat_of .i64 h46) h48) ?_
      refine Rd_endF (by rfl) ?_
      refine Z1 (Y5 c36 (nat_of .i64 h40) h42 (nat_of .i64 h46) h48) ?_
      rcases ite_inv H45 with ⟨c50, H51⟩ | ⟨c50, H51⟩
      ·refine Z1 (Y6 c36 (nat_of .i64 h40) h42 (nat_of .i64 h46) h48 c50) ?_
       obtain rfl := Zi H51
       obtain rfl := Zi H4
       exact ZE0
      ·refine Z1 (Y6 c36 (nat_of .i64 h40) h42 (nat_of .i64 h46) h48 c50) ?_
       rcases ite_inv H51 with ⟨c52, H53⟩ | ⟨c52, H53⟩
       ·refine Z1 (Y2 (Y6 c36 (nat_of .i64 h40) h42 (nat_of .i64 h46) h48 c50) c52) ?_
        rcases ite_inv H53 with ⟨c54, H55⟩ | ⟨c54, H55⟩
        ·refine Z1 (Y2 (Y6 c36 (nat_of .i64 h40) h42 (nat_of .i64 h46) h48 c50) (Y2 c52 c54)) ?_
         rcases ite_inv H55 with ⟨c56, H57⟩ | ⟨c56, H57⟩
         ·obtain ⟨t582, b58, H59⟩ := bind_inv H57
          refine Z1 (Y2 (Y6 c36 (nat_of .i64 h40) h42 (nat_of .i64 h46) h48 c50) (Y3 c52 c54 c56)) ?_
          refine ZC0 (ref1_SameTexts_ok b58) ?_
          refine Z1 (Y2 (Y6 c36 (nat_of .i64 h40) h42 (nat_of .i64 h46) h48 c50) (Y3 c52 c54 c56)) ?_
          rcases ite_inv H59 with ⟨c60, H61⟩ | ⟨c60, H61⟩
          ·obtain ⟨t662, b62, H63⟩ := bind_inv H61
           refine Z1 (Y2 (Y6 c36 (nat_of .i64 h40) h42 (nat_of .i64 h46) h48 c50) (Y4 c52 c54 c56 c60)) ?_
           refine ZC0 (ref17_SameAcl_ok b62) ?_
           refine Z1 (Y2 (Y6 c36 (nat_of .i64 h40) h42 (nat_of .i64 h46) h48 c50) (Y4 c52 c54 c56 c60)) ?_
           rcases ite_inv H63 with ⟨c64, H65⟩ | ⟨c64, H65⟩
           ·refine Z1 (Y2 (Y6 c36 (nat_of .i64 h40) h42 (nat_of .i64 h46) h48 c50) (Y5 c52 c54 c56 c60 c64)) ?_
            exact ⟨⟨(c, (IntKind.i64.wrap (t5 + 1))), H65⟩, ZR [], Nat.lt_succ_self _⟩
           ·refine Z1 (Y2 (Y6 c36 (nat_of .i64 h40) h42 (nat_of .i64 h46) h48 c50) (Y5 c52 c54 c56 c60 c64)) ?_
            obtain rfl := Zi H65
            obtain rfl := Zi H4
            exact ZE0
          ·refine Z1 (Y2 (Y6 c36 (nat_of .i64 h40) h42 (nat_of .i64 h46) h48 c50) (Y4 c52 c54 c56 c60)) ?_
           obtain rfl := Zi H61
           obtain rfl := Zi H4
           exact ZE0
         ·refine Z1 (Y2 (Y6 c36 (nat_of .i64 h40) h42 (nat_of .i64 h46) h48 c50) (Y3 c52 c54 c56)) ?_
          obtain rfl := Zi H57
          obtain rfl := Zi H4
          exact ZE0
        ·refine Z1 (Y2 (Y6 c36 (nat_of .i64 h40) h42 (nat_of .i64 h46) h48 c50) (Y2 c52 c54)) ?_
         obtain rfl := Zi H55
         obtain rfl := Zi H4
         exact ZE0
       ·refine Z1 (Y2 (Y6 c36 (nat_of .i64 h40) h42 (nat_of .i64 h46) h48 c50) c52) ?_
        obtain rfl := Zi H53
        obtain rfl := Zi H4
        exact ZE0
     ·refine Z1 c36 ?_
      obtain rfl := Zi H37
      exact ⟨⟨(), rfl⟩, ZR []⟩
  ·rintro ⟨_, he66⟩
   replace he66 := he66.symm
   subst he66
   try dsimp only at H4
   refine ZT 1 ?_
   refine Z0 ?_
   obtain rfl := Zi H4
   exact ZE0
def law17_AclsBack (n : Nat) (t0 : List Int) (t1 : Int) (t2 : Int) : Option Bool :=
 (law17_File n t0 ((IntKind.i64.wrap (an t2 1 : Int)) == 1)).bind fun t29 =>
 (acls_Parse n t29).bind fun t30 =>
 (
  (if (t30.2.2 == 0) then
   (acls_Text n t30.1).bind fun t38 =>
   (acls_Parse n t38.1).bind fun t43 =>
   (acls_Text n t43.1).bind fun t49 =>
   (if t38.2 then
    (if (t43.2.2 != 0) then
     some (.inr false)
    else
     (ref17_Same n t30.1 t43.1).bind fun t61 =>
     (if t61 then
      (if (t49.1.toList == t38.1.toList) then
       (if t49.2 then
        some (.inl ())
       else
        some (.inr false))
      else
       some (.inr false))
     else
      some (.inr false)))
   else
    some (.inr false))
  else
   some (.inl ())) : Option ((Unit) ⊕ Bool)).bind fun
  | .inl _ =>
   (law17_Acl n t1 true).bind fun t75 =>
   (acls_Entries n t75).bind fun t76 =>
   (acls_EntriesText n t76.1).bind fun t81 =>
   (idx [(⟨0, ByteArray.empty, [], ByteArray.empty, ByteArray.empty, [], 0⟩ : GFile), (⟨5, { data := #[97] }, [], ByteArray.empty, ByteArray.empty, [], 0⟩ : GFile), (⟨1, ByteArray.empty, [], ByteArray.empty, ByteArray.empty, [], 0⟩ : GFile), (⟨1, { data := #[47, 97] }, [], ByteArray.empty, ByteArray.empty, [], 0⟩ : GFile), (⟨1, { data := #[97] }, ([{ data := #[98] }] : List ByteArray), ByteArray.empty, ByteArray.empty, [], 0⟩ : GFile), (⟨2, { data := #[97] }, [], { data := #[98] }, ByteArray.empty, [], 0⟩ : GFile), (⟨2, { data := #[97] }, ([{ data := #[97, 32, 98] }] : List ByteArray), ByteArray.empty, ByteArray.empty, [], 0⟩ : GFile), (⟨3, { data := #[47] }, [], { data := #[97] }, { data := #[98] }, [], 0⟩ : GFile), (⟨3, { data := #[97] }, [], { data := #[97] }, { data := #[98] }, t76.1, 0⟩ : GFile), (⟨4, { data := #[47, 97] }, [], ByteArray.empty, { data := #[98] }, t76.1, 0⟩ : GFile), (⟨4, { data := #[47, 97] }, [], { data := #[97] }, { data := #[98] }, [(⟨1, false, ByteArray.empty, 8⟩ : GEntry)], 0⟩ : GFile), (⟨4, { data := #[47, 97] }, [], { data := #[97] }, { data := #[98] }, [(⟨2, false, ByteArray.empty, 0⟩ : GEntry)], 0⟩ : GFile), (⟨4, { data := #[47, 97] }, [], { data := #[97] }, { data := #[98] }, [(⟨5, false, { data := #[120] }, 0⟩ : GEntry)], 0⟩ : GFile)] (Int.tmod (IntKind.i64.wrap (an (sh t2 1) 255 : Int)) 13)).bind fun x =>
   (acls_Text n [x]).bind fun t119 =>
   (if t76.2 then
    (if t81.2 then
     (law17_Acl n t1 true).bind fun t129 =>
     (if (t81.1.toList == t129.toList) then
      (if t119.2 then
       some false
      else
       (if (t119.1.toList == ({ data := #[] } : ByteArray).toList) then
        (law17_awake n).bind fun t141 =>
        some t141
       else
        some false))
     else
      some false)
    else
     some false)
   else
    some false)
  | .inr r => some r
set_option maxHeartbeats 8000000 in
theorem law17_AclsBack_ok {n : Nat} {t0 : List Int} {t1 : Int} {t2 : Int} {r : Bool} (H : law17_AclsBack n t0 t1 t2 = some r) : PureOK Tryd.prog 4 [D.sl (List.map eI t0), D.v (.int .i64 t1), D.v (.int .i64 t2)] (D.v (.bool r)) true := by
 unfold law17_AclsBack at H
 refine ZP tab_ok fol (rs := #[.tmp 6]) Tryd.func4 ?_
 refine runR_seq ?_
 refine ZT 1 ?_
 refine Z0 ?_
 refine runR_seq ?_
 refine ZT 1 ?_
 obtain ⟨t29, b1, H2⟩ := bind_inv H
 refine Z0 ?_
 refine ZC0 (law17_File_ok b1) ?_
 obtain ⟨t30, b3, H4⟩ := bind_inv H2
 refine Z0 ?_
 refine ZC0 (acls_Parse_ok b3) ?_
 refine Z0 ?_
 refine runR_seq ?_
 refine runR_seq ?_
 refine ZT 1 ?_
 refine Z0 ?_
 obtain ⟨e_, E5, H6⟩ := bind_inv H4
 refine runR_join (α := { y : Unit // e_ = .inl y }) (fun | ⟨_, _⟩ => ⟨upd 1 (.v (.int .i64 t1)) (upd 2 (.v (.int .i64 t2)) noFr), noHp, 0⟩) ?_ ?_
 ·refine ZT 1 ?_
  refine Z0 ?_
  rcases ite_inv E5 with ⟨c7, H8⟩ | ⟨c7, H8⟩
  ·obtain ⟨t38, b9, H10⟩ := bind_inv H8
   refine Z1 c7 ?_
   refine ZC0 (acls_Text_ok b9) ?_
   obtain ⟨t43, b11, H12⟩ := bind_inv H10
   refine Z1 c7 ?_
   refine ZC0 (acls_Parse_ok b11) ?_
   obtain ⟨t49, b13, H14⟩ := bind_inv H12
   refine Z1 c7 ?_
   refine ZC0 (acls_Text_ok b13) ?_
   refine Z1 c7 ?_
   rcases ite_inv H14 with ⟨c15, H16⟩ | ⟨c15, H16⟩
   ·refine Z1 (Y2 c7 c15) ?_
    rcases ite_inv H16 with ⟨c17, H18⟩ | ⟨c17, H18⟩
    ·refine Z1 (Y3 c7 c15 c17) ?_
     obtain rfl := Zi H18
     obtain rfl := Zi H6
     exact ZE0
    ·obtain ⟨t61, b19, H20⟩ := bind_inv H18
     refine Z1 (Y3 c7 c15 c17) ?_
     refine ZC0 (ref17_Same_ok b19) ?_
     refine Z1 (Y3 c7 c15 c17) ?_
     rcases ite_inv H20 with ⟨c21, H22⟩ | ⟨c21, H22⟩
     ·refine Z1 (Y4 c7 c15 c17 c21) ?_
      rcases ite_inv H22 with ⟨c23, H24⟩ | ⟨c23, H24⟩
      ·refine Z1 (Y5 c7 c15 c17 c21 c23) ?_
       rcases ite_inv H24 with ⟨c25, H26⟩ | ⟨c25, H26⟩
       ·refine Z1 (Y6 c7 c15 c17 c21 c23 c25) ?_
        obtain rfl := Zi H26
        exact ⟨⟨(), rfl⟩, ZR []⟩
       ·refine Z1 (Y6 c7 c15 c17 c21 c23 c25) ?_
        obtain rfl := Zi H26
        obtain rfl := Zi H6
        exact ZE0
      ·refine Z1 (Y5 c7 c15 c17 c21 c23) ?_
       obtain rfl := Zi H24
       obtain rfl := Zi H6
       exact ZE0
     ·refine Z1 (Y4 c7 c15 c17 c21) ?_
      obtain rfl := Zi H22
      obtain rfl := Zi H6
      exact ZE0
   ·refine Z1 (Y2 c7 c15) ?_
    obtain rfl := Zi H16
    obtain rfl := Zi H6
    exact ZE0
  ·refine Z1 c7 ?_
   obtain rfl := Zi H8
   exact ⟨⟨(), rfl⟩, ZR []⟩
 ·rintro ⟨_, he55⟩
  replace he55 := he55.symm
  subst he55
  try dsimp only at H6
  refine ZT 1 ?_
  obtain ⟨t75, b27, H28⟩ := bind_inv H6
  refine Z0 ?_
  refine ZC0 (law17_Acl_ok b27) ?_
  obtain ⟨t76, b29, H30⟩ := bind_inv H28
  refine Z0 ?_
  refine ZC0 (acls_Entries_ok b29) ?_
  obtain ⟨t81, b31, H32⟩ := bind_inv H30
  refine Z0 ?_
  refine ZC0 (acls_EntriesText_ok b31) ?_
  obtain ⟨x, b33, H34⟩ := bind_inv H32
  obtain ⟨h35, h36⟩ := idx_inv b33
  try simp only [Int.reduceToNat, Int.toNat_natCast] at h36
  have h37 := map_at eGFile h36
  simp only [List.map_cons, List.map_nil, eGFile] at h37
  have h38 := at_lt h36
  simp only [List.length_cons, List.length_nil, Nat.reduceAdd] at h38
  obtain ⟨t119, b39, H40⟩ := bind_inv H34
  refine Z1 (Y3 (nat_of .i64 h35) h37 h38) ?_
  refine ZC1 (Y3 (nat_of .i64 h35) h37 h38) (acls_Text_ok b39) ?_
  refine Z1 (Y3 (nat_of .i64 h35) h37 h38) ?_
  rcases ite_inv H40 with ⟨c41, H42⟩ | ⟨c41, H42⟩
  ·refine Z1 (Y4 (nat_of .i64 h35) h37 h38 c41) ?_
   rcases ite_inv H42 with ⟨c43, H44⟩ | ⟨c43, H44⟩
   ·obtain ⟨t129, b45, H46⟩ := bind_inv H44
    refine Z1 (Y5 (nat_of .i64 h35) h37 h38 c41 c43) ?_
    refine ZC0 (law17_Acl_ok b45) ?_
    refine Z1 (Y5 (nat_of .i64 h35) h37 h38 c41 c43) ?_
    rcases ite_inv H46 with ⟨c47, H48⟩ | ⟨c47, H48⟩
    ·refine Z1 (Y6 (nat_of .i64 h35) h37 h38 c41 c43 c47) ?_
     rcases ite_inv H48 with ⟨c49, H50⟩ | ⟨c49, H50⟩
     ·refine Z1 (Y2 (Y6 (nat_of .i64 h35) h37 h38 c41 c43 c47) c49) ?_
      obtain rfl := Zi H50
      exact ZE0
     ·refine Z1 (Y2 (Y6 (nat_of .i64 h35) h37 h38 c41 c43 c47) c49) ?_
      rcases ite_inv H50 with ⟨c51, H52⟩ | ⟨c51, H52⟩
      ·obtain ⟨t141, b53, H54⟩ := bind_inv H52
       refine Z1 (Y2 (Y6 (nat_of .i64 h35) h37 h38 c41 c43 c47) (Y2 c49 c51)) ?_
       refine ZC0 (law17_awake_ok b53) ?_
       refine Z1 (Y2 (Y6 (nat_of .i64 h35) h37 h38 c41 c43 c47) (Y2 c49 c51)) ?_
       obtain rfl := Zi H54
       exact ZE0
      ·refine Z1 (Y2 (Y6 (nat_of .i64 h35) h37 h38 c41 c43 c47) (Y2 c49 c51)) ?_
       obtain rfl := Zi H52
       exact ZE0
    ·refine Z1 (Y6 (nat_of .i64 h35) h37 h38 c41 c43 c47) ?_
     obtain rfl := Zi H48
     exact ZE0
   ·refine Z1 (Y5 (nat_of .i64 h35) h37 h38 c41 c43) ?_
    obtain rfl := Zi H44
    exact ZE0
  ·refine Z1 (Y4 (nat_of .i64 h35) h37 h38 c41) ?_
   obtain rfl := Zi H42
   exact ZE0
end Go.Proofs.YtkikhbfdadambaaDoor.Ab
