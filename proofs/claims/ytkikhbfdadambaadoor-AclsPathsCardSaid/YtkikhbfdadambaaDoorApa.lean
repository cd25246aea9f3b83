/-
  Functions, read off the code.
-/
import Derived.Test.YtkikhbfdadambaaDoorAcs
import Derived.Test.YtkikhbfdadambaaDoorAwa
namespace Go.Proofs.YtkikhbfdadambaaDoor.Ab
open Go.RowKit
def ref1_alnum (n : Nat) (c2 : Int) : Option Bool :=
  (if (decide (97 ≤ c2)) then
    (if (decide (c2 ≤ 122)) then
      some true
    else
      (if (decide (48 ≤ c2)) then
        some (decide (c2 ≤ 57))
      else
        some false))
  else
    (if (decide (48 ≤ c2)) then
      some (decide (c2 ≤ 57))
    else
      some false))
theorem ref1_alnum_ok {n : Nat} {c2 : Int} {r : Bool} (H : ref1_alnum n c2 = some r) : PureOK Tryd.prog 38 [D.v (.int .u8 c2)] (D.v (.bool r)) true := by
  unfold ref1_alnum at H
  refine ZP tab_ok fol (rs := #[.tmp 2]) Tryd.func38 ?_
  refine ZT 1 ?_
  refine Z0 ?_
  rcases ite_inv H with ⟨c1, H2⟩ | ⟨c1, H2⟩
  · refine Z1 c1 ?_
    rcases ite_inv H2 with ⟨c3, H4⟩ | ⟨c3, H4⟩
    · refine Z1 (Y2 c1 c3) ?_
      obtain rfl := Zi H4
      exact ZE0
    · refine Z1 (Y2 c1 c3) ?_
      rcases ite_inv H4 with ⟨c5, H6⟩ | ⟨c5, H6⟩
      · refine Z1 (Y3 c1 c3 c5) ?_
        obtain rfl := Zi H6
        exact ZE0
      · refine Z1 (Y3 c1 c3 c5) ?_
        obtain rfl := Zi H6
        exact ZE0
  · refine Z1 c1 ?_
    rcases ite_inv H2 with ⟨c7, H8⟩ | ⟨c7, H8⟩
    · refine Z1 (Y2 c1 c7) ?_
      obtain rfl := Zi H8
      exact ZE0
    · refine Z1 (Y2 c1 c7) ?_
      obtain rfl := Zi H8
      exact ZE0
def ref1_Name_L1 (n : Nat) (s : ByteArray) : Nat → Int → Option ((Unit) ⊕ Bool)
  | 0, _ => none
  | c + 1, i =>
    (if (decide (i < (s.size : Int))) then
      (bidx s i).bind fun ch3 =>
      (ref1_alnum n ch3).bind fun t272 =>
      (if t272 then
        ref1_Name_L1 n s c (IntKind.i64.wrap (i + 1))
      else
        (if (ch3 != 95) then
          (if (ch3 != 45) then
            (if (ch3 != 46) then
              some (.inr false)
            else
              ref1_Name_L1 n s c (IntKind.i64.wrap (i + 1)))
          else
            ref1_Name_L1 n s c (IntKind.i64.wrap (i + 1)))
        else
          ref1_Name_L1 n s c (IntKind.i64.wrap (i + 1))))
    else
      some (.inl ()))

def ref1_Name (n : Nat) (s : ByteArray) : Option Bool :=
  (
    (if (decide ((s.size : Int) < 1)) then
      some true
    else
      (if (decide (30 < (s.size : Int))) then
        some true
      else
        (bidx s 0).bind fun ch =>
        (ref1_alnum n ch).bind fun t15 =>
        some (!t15))) : Option (Bool)).bind fun t17 =>
  (if t17 then
    some false
  else
    (
      ref1_Name_L1 n s n 0 : Option ((Unit) ⊕ Bool)).bind fun
      | .inl _ =>
        some true
      | .inr r => some r)
theorem ref1_Name_ok {n : Nat} {s : ByteArray} {r : Bool} (H : ref1_Name n s = some r) : PureOK Tryd.prog 16 [D.v (.string s)] (D.v (.bool r)) true := by
  unfold ref1_Name at H
  refine ZP tab_ok fol (rs := #[.tmp 2]) Tryd.func16 ?_
  refine runR_seq ?_
  refine ZT 1 ?_
  refine Z0 ?_
  refine runR_seq ?_
  refine runR_seq ?_
  obtain ⟨e_, E1, H2⟩ := bind_inv H
  refine runR_join (α := { y : Bool // e_ = y }) (fun | ⟨t17, _⟩ => ⟨upd 0 (.v (.string s)) (upd 17 (.v (.bool t17)) noFr), noHp, 0⟩) ?_ ?_
  · refine ZT 1 ?_
    refine Z0 ?_
    rcases ite_inv E1 with ⟨c3, H4⟩ | ⟨c3, H4⟩
    · refine Z1 c3 ?_
      obtain rfl := Zi H4
      exact ⟨⟨true, rfl⟩, ZR []⟩
    · refine Z1 c3 ?_
      rcases ite_inv H4 with ⟨c5, H6⟩ | ⟨c5, H6⟩
      · refine Z1 (Y2 c3 c5) ?_
        obtain rfl := Zi H6
        exact ⟨⟨true, rfl⟩, ZR []⟩
      · obtain ⟨ch, b7, H8⟩ := bind_inv H6
        obtain ⟨h9, by_, h10, h11⟩ := bidx_inv b7
        try simp only [Int.reduceToNat, Int.toNat_natCast] at h10
        obtain ⟨t15, b12, H13⟩ := bind_inv H8
        refine Z1 (Y5 c3 c5 (nat_of .i64 h9) h10 h11.symm) ?_
        refine ZC0 (ref1_alnum_ok b12) ?_
        refine Z1 (Y5 c3 c5 (nat_of .i64 h9) h10 h11.symm) ?_
        obtain rfl := Zi H13
        exact ⟨⟨(!t15), rfl⟩, ZR []⟩
  · rintro ⟨t17, he54⟩
    replace he54 := he54.symm
    subst he54
    try dsimp only at H2
    refine ZT 1 ?_
    refine Z0 ?_
    rcases ite_inv H2 with ⟨c14, H15⟩ | ⟨c14, H15⟩
    · refine Z1 c14 ?_
      obtain rfl := Zi H15
      exact ZE0
    · refine Z1 c14 ?_
      refine runR_seq ?_
      refine runR_seq ?_
      refine ZT 1 ?_
      refine Z1 c14 ?_
      obtain ⟨e_2, E16, H17⟩ := bind_inv H15
      refine runR_join (α := { y : Unit // e_2 = .inl y }) (fun | ⟨_, _⟩ => ⟨noFr, noHp, 0⟩) ?_ ?_
      · refine runR_block ?_
        refine runR_loop (α := { q : Nat × Int // ref1_Name_L1 n s q.1 q.2 = some e_2 }) (fun | ⟨⟨c, i⟩, _⟩ => ⟨upd 0 (.v (.string s)) (upd 3 (.v (.int .i64 i)) noFr), noHp, 0⟩) (fun q => q.1.1) ⟨(n, 0), E16⟩ ?_ ?_
        · exact ZR []
        · rintro ⟨⟨c, i⟩, L18⟩
          rcases c with _ | c
          · exact nomatch (show none = some _ from L18)
          · unfold ref1_Name_L1 at L18
            try dsimp only at L18
            refine ZT 1 ?_
            refine Z0 ?_
            rcases ite_inv L18 with ⟨c36, H37⟩ | ⟨c36, H37⟩
            · obtain ⟨ch3, b38, H39⟩ := bind_inv H37
              obtain ⟨h40, by_3, h41, h42⟩ := bidx_inv b38
              try simp only [Int.reduceToNat, Int.toNat_natCast] at h41
              obtain ⟨t272, b43, H44⟩ := bind_inv H39
              refine Z1 (Y4 c36 (nat_of .i64 h40) h41 h42.symm) ?_
              refine ZC0 (ref1_alnum_ok b43) ?_
              refine Z1 (Y4 c36 (nat_of .i64 h40) h41 h42.symm) ?_
              rcases ite_inv H44 with ⟨c45, H46⟩ | ⟨c45, H46⟩
              · refine Z1 (Y5 c36 (nat_of .i64 h40) h41 h42.symm c45) ?_
                exact ⟨⟨(c, (IntKind.i64.wrap (i + 1))), H46⟩, ZR [], Nat.lt_succ_self _⟩
              · refine Z1 (Y5 c36 (nat_of .i64 h40) h41 h42.symm c45) ?_
                rcases ite_inv H46 with ⟨c47, H48⟩ | ⟨c47, H48⟩
                · refine Z1 (Y6 c36 (nat_of .i64 h40) h41 h42.symm c45 c47) ?_
                  rcases ite_inv H48 with ⟨c49, H50⟩ | ⟨c49, H50⟩
                  · refine Z1 (Y2 (Y6 c36 (nat_of .i64 h40) h41 h42.symm c45 c47) c49) ?_
                    rcases ite_inv H50 with ⟨c51, H52⟩ | ⟨c51, H52⟩
                    · refine Z1 (Y2 (Y6 c36 (nat_of .i64 h40) h41 h42.symm c45 c47) (Y2 c49 c51)) ?_
                      obtain rfl := Zi H52
                      obtain rfl := Zi H17
                      exact ZE0
                    · refine Z1 (Y2 (Y6 c36 (nat_of .i64 h40) h41 h42.symm c45 c47) (Y2 c49 c51)) ?_
                      exact ⟨⟨(c, (IntKind.i64.wrap (i + 1))), H52⟩, ZR [], Nat.lt_succ_self _⟩
                  · refine Z1 (Y2 (Y6 c36 (nat_of .i64 h40) h41 h42.symm c45 c47) c49) ?_
                    exact ⟨⟨(c, (IntKind.i64.wrap (i + 1))), H50⟩, ZR [], Nat.lt_succ_self _⟩
                · refine Z1 (Y6 c36 (nat_of .i64 h40) h41 h42.symm c45 c47) ?_
                  exact ⟨⟨(c, (IntKind.i64.wrap (i + 1))), H48⟩, ZR [], Nat.lt_succ_self _⟩
            · refine Z1 c36 ?_
              obtain rfl := Zi H37
              exact ⟨⟨(), rfl⟩, ZR []⟩
      · rintro ⟨_, he53⟩
        replace he53 := he53.symm
        subst he53
        try dsimp only at H17
        refine ZT 1 ?_
        refine Z0 ?_
        obtain rfl := Zi H17
        exact ZE0
def law17_AclsPaths_L1 (n : Nat) (t0 : List Int) : Nat → (ByteArray × ByteArray × Int) → Option (ByteArray × ByteArray)
  | 0, _ => none
  | c + 1, (t72, t82, t92) =>
    (
      (if (decide (t92 < (t0.length : Int))) then
        some (decide (t92 < 24))
      else
        some false) : Option (Bool)).bind fun t213 =>
    (if t213 then
      (
        (if (t72.toList == ({ data := #[] } : ByteArray).toList) then
          some t82
        else
          some t72) : Option (ByteArray)).bind fun t83 =>
      (cat t72 ({ data := #[47] })).bind fun s5 =>
      (idx t0 t92).bind fun x5 =>
      (idx ([{ data := #[97] }, { data := #[98, 45, 49] }, { data := #[120, 46, 121] }, { data := #[48] }] : List ByteArray) (IntKind.i64.wrap (an x5 3 : Int))).bind fun x6 =>
      (cat s5 x6).bind fun s6 =>
      law17_AclsPaths_L1 n t0 c (s6, t83, (IntKind.i64.wrap (t92 + 1)))
    else
      some (t72, t82))

def law17_AclsPaths_L3 (n : Nat) (t2 : Int) : Nat → (ByteArray × Int) → Option (ByteArray)
  | 0, _ => none
  | c + 1, (t115, t133) =>
    (if (decide (t133 < (IntKind.i64.wrap (an t2 31 : Int)))) then
      (cat t115 ({ data := #[122] })).bind fun s18 =>
      law17_AclsPaths_L3 n t2 c (s18, (IntKind.i64.wrap (t133 + 1)))
    else
      some t115)

def law17_AclsPaths_L2 (n : Nat) (t1 : Int) (t2 : Int) : Nat → (ByteArray × Int) → Option (ByteArray)
  | 0, _ => none
  | c + 1, (t114, t12) =>
    (if (decide (t12 < (IntKind.i64.wrap ((IntKind.i64.wrap (an t1 7 : Int)) + 4)))) then
      (cat t114 ({ data := #[47] })).bind fun s16 =>
      (
        law17_AclsPaths_L3 n t2 n (s16, 0) : Option (ByteArray)).bind fun t117 =>
      law17_AclsPaths_L2 n t1 t2 c (t117, (IntKind.i64.wrap (t12 + 1)))
    else
      some t114)

def law17_AclsPaths (n : Nat) (t0 : List Int) (t1 : Int) (t2 : Int) : Option Bool :=
  (
    law17_AclsPaths_L1 n t0 n ({ data := #[] }, { data := #[47] }, 0) : Option (ByteArray × ByteArray)).bind fun (t74, t85) =>
  (if (t74.toList == ({ data := #[] } : ByteArray).toList) then
    (
      (acls_Path n ({ data := #[47] })).bind fun t40 =>
      (if t40 then
        (law17_awake n).bind fun t42 =>
        some t42
      else
        some false) : Option (Bool)).bind fun t6 =>
    some t6
  else
    (
      (if (decide ((t0.length : Int) ≤ 20)) then
        (acls_Parent n t74).bind fun t50 =>
        (if (t50.toList == t85.toList) then
          (acls_Path n t74).bind fun t56 =>
          (if (t56 == true) then
            (cat t74 ({ data := #[47] })).bind fun s7 =>
            (acls_Path n s7).bind fun t63 =>
            (if t63 then
              some true
            else
              (cat t74 ({ data := #[47, 47, 97] })).bind fun s8 =>
              (acls_Path n s8).bind fun t68 =>
              (if t68 then
                some true
              else
                (bslc t74 1 (t74.size : Int)).bind fun s9 =>
                (acls_Path n s9).bind fun t732 =>
                some t732))
          else
            some true)
        else
          some true)
      else
        (acls_Path n t74).bind fun t562 =>
        (if (t562 == false) then
          (cat t74 ({ data := #[47] })).bind fun s10 =>
          (acls_Path n s10).bind fun t632 =>
          (if t632 then
            some true
          else
            (cat t74 ({ data := #[47, 47, 97] })).bind fun s11 =>
            (acls_Path n s11).bind fun t682 =>
            (if t682 then
              some true
            else
              (bslc t74 1 (t74.size : Int)).bind fun s12 =>
              (acls_Path n s12).bind fun t733 =>
              some t733))
        else
          some true)) : Option (Bool)).bind fun t742 =>
    (if t742 then
      some false
    else
      (
        law17_AclsPaths_L2 n t1 t2 n ({ data := #[] }, 0) : Option (ByteArray)).bind fun t119 =>
      (acls_Path n t119).bind fun t95 =>
      (if (decide (1 ≤ (IntKind.i64.wrap (an t2 31 : Int)))) then
        (if (decide ((IntKind.i64.wrap (an t2 31 : Int)) ≤ 30)) then
          (if (t95 == (decide ((t119.size : Int) ≤ 200))) then
            (ref1_Name n ({ data := #[122] })).bind fun t109 =>
            (if t109 then
              (law17_awake n).bind fun t1122 =>
              some t1122
            else
              some false)
          else
            some false)
        else
          (if (t95 == false) then
            (ref1_Name n ({ data := #[122] })).bind fun t1092 =>
            (if t1092 then
              (law17_awake n).bind fun t1123 =>
              some t1123
            else
              some false)
          else
            some false))
      else
        (if (t95 == false) then
          (ref1_Name n ({ data := #[122] })).bind fun t1093 =>
          (if t1093 then
            (law17_awake n).bind fun t1124 =>
            some t1124
          else
            some false)
        else
          some false))))
set_option maxHeartbeats 8000000 in
theorem law17_AclsPaths_ok {n : Nat} {t0 : List Int} {t1 : Int} {t2 : Int} {r : Bool} (H : law17_AclsPaths n t0 t1 t2 = some r) : PureOK Tryd.prog 5 [D.sl (List.map eI t0), D.v (.int .i64 t1), D.v (.int .i64 t2)] (D.v (.bool r)) true := by
  unfold law17_AclsPaths at H
  refine ZP tab_ok fol (rs := #[.tmp 6]) Tryd.func5 ?_
  refine runR_seq ?_
  refine ZT 1 ?_
  refine Z0 ?_
  refine runR_seq ?_
  refine ZT 1 ?_
  refine Z0 ?_
  refine runR_seq ?_
  refine runR_seq ?_
  refine ZT 1 ?_
  refine Z0 ?_
  obtain ⟨e_, E1, H2⟩ := bind_inv H
  refine runR_join (α := { y : ByteArray × ByteArray // e_ = y }) (fun | ⟨⟨t74, t85⟩, _⟩ => ⟨upd 0 (.d (.sl (List.map eI t0)) true) (upd 1 (.v (.int .i64 t1)) (upd 2 (.v (.int .i64 t2)) (upd 7 (.v (.string t74)) (upd 8 (.v (.string t85)) noFr)))), noHp, 0⟩) ?_ ?_
  · refine runR_block ?_
    refine runR_loop (α := { q : Nat × (ByteArray × ByteArray × Int) // law17_AclsPaths_L1 n t0 q.1 q.2 = some e_ }) (fun | ⟨⟨c, ⟨t72, t82, t92⟩⟩, _⟩ => ⟨upd 0 (.d (.sl (List.map eI t0)) true) (upd 1 (.v (.int .i64 t1)) (upd 2 (.v (.int .i64 t2)) (upd 7 (.v (.string t72)) (upd 8 (.v (.string t82)) (upd 9 (.v (.int .i64 t92)) noFr))))), noHp, 0⟩) (fun q => q.1.1) ⟨(n, ({ data := #[] }, { data := #[47] }, 0)), E1⟩ ?_ ?_
    · exact ZR []
    · rintro ⟨⟨c, ⟨t72, t82, t92⟩⟩, L3⟩
      rcases c with _ | c
      · exact nomatch (show none = some _ from L3)
      · unfold law17_AclsPaths_L1 at L3
        try dsimp only at L3
        refine runR_seq ?_
        refine runR_seq ?_
        obtain ⟨e_6, E67, H68⟩ := bind_inv L3
        refine runR_join (α := { y : Bool // e_6 = y }) (fun | ⟨t213, _⟩ => ⟨upd 0 (.d (.sl (List.map eI t0)) true) (upd 1 (.v (.int .i64 t1)) (upd 2 (.v (.int .i64 t2)) (upd 7 (.v (.string t72)) (upd 8 (.v (.string t82)) (upd 9 (.v (.int .i64 t92)) (upd 21 (.v (.bool t213)) noFr)))))), noHp, 0⟩) ?_ ?_
        · refine ZT 1 ?_
          refine Z0 ?_
          rcases ite_inv E67 with ⟨c69, H70⟩ | ⟨c69, H70⟩
          · refine Z1 c69 ?_
            obtain rfl := Zi H70
            exact ⟨⟨(decide (t92 < 24)), rfl⟩, ZR []⟩
          · refine Z1 c69 ?_
            obtain rfl := Zi H70
            exact ⟨⟨false, rfl⟩, ZR []⟩
        · rintro ⟨t213, he99⟩
          replace he99 := he99.symm
          subst he99
          try dsimp only at H68
          refine ZT 1 ?_
          refine Z0 ?_
          rcases ite_inv H68 with ⟨c71, H72⟩ | ⟨c71, H72⟩
          · refine Z1 c71 ?_
            refine runR_seq ?_
            refine runR_block ?_
            refine runR_seq ?_
            refine runR_seq ?_
            refine ZT 1 ?_
            refine Z1 c71 ?_
            obtain ⟨e_7, E73, H74⟩ := bind_inv H72
            refine runR_join (α := { y : ByteArray // e_7 = y }) (fun | ⟨t83, _⟩ => ⟨upd 0 (.d (.sl (List.map eI t0)) true) (upd 1 (.v (.int .i64 t1)) (upd 2 (.v (.int .i64 t2)) (upd 7 (.v (.string t72)) (upd 8 (.v (.string t83)) (upd 9 (.v (.int .i64 t92)) noFr))))), noHp, 0⟩) ?_ ?_
            · refine ZT 1 ?_
              refine Z0 ?_
              rcases ite_inv E73 with ⟨c75, H76⟩ | ⟨c75, H76⟩
              · refine Z1 c75 ?_
                obtain rfl := Zi H76
                exact ⟨⟨t82, rfl⟩, ZR []⟩
              · refine Z1 c75 ?_
                obtain rfl := Zi H76
                exact ⟨⟨t72, rfl⟩, ZR []⟩
            · rintro ⟨t83, he98⟩
              replace he98 := he98.symm
              subst he98
              try dsimp only at H74
              refine ZT 3 ?_
              obtain ⟨s5, b77, H78⟩ := bind_inv H74
              obtain ⟨h79, h80⟩ := cat_inv b77
              have h81 : t72.size + 1 ≤ maxLen := h79
              obtain ⟨x5, b82, H83⟩ := bind_inv H78
              obtain ⟨h84, h85⟩ := idx_inv b82
              try simp only [Int.reduceToNat, Int.toNat_natCast] at h85
              have h86 := map_at eI h85
              obtain ⟨x6, b88, H89⟩ := bind_inv H83
              obtain ⟨h90, h91⟩ := idx_inv b88
              try simp only [Int.reduceToNat, Int.toNat_natCast] at h91
              have h92 := map_at eS h91
              simp only [List.map_cons, List.map_nil, eS] at h92
              have h93 := at_lt h91
              simp only [List.length_cons, List.length_nil, Nat.reduceAdd] at h93
              obtain ⟨s6, b94, H95⟩ := bind_inv H89
              obtain ⟨h96, h97⟩ := cat_inv b94
              refine Z1 (Y2 (Y6 h79 h80 h81 (nat_of .i64 h84) h86 (nat_of .i64 h90)) (Y4 h92 h93 h96 h97)) ?_
              exact ⟨⟨(c, (s6, t83, (IntKind.i64.wrap (t92 + 1)))), H95⟩, ZR [], Nat.lt_succ_self _⟩
          · refine Z1 c71 ?_
            obtain rfl := Zi H72
            exact ⟨⟨(t72, t82), rfl⟩, ZR []⟩
  · rintro ⟨⟨t74, t85⟩, he271⟩
    replace he271 := he271.symm
    subst he271
    try dsimp only at H2
    refine runR_seq ?_
    refine runR_seq ?_
    refine ZT 1 ?_
    refine Z0 ?_
    rcases ite_inv H2 with ⟨c100, H101⟩ | ⟨c100, H101⟩
    · refine runR_condT (by rfl) c100 ?_
      refine Z1 c100 ?_
      refine runR_seq ?_
      obtain ⟨e_8, E102, H103⟩ := bind_inv H101
      refine runR_join (α := { y : Bool // e_8 = y }) (fun | ⟨t6, _⟩ => ⟨upd 6 (.v (.bool t6)) noFr, noHp, 0⟩) ?_ ?_
      · refine ZT 1 ?_
        obtain ⟨t40, b104, H105⟩ := bind_inv E102
        refine Z0 ?_
        refine ZC0 (acls_Path_ok b104) ?_
        refine Z0 ?_
        rcases ite_inv H105 with ⟨c106, H107⟩ | ⟨c106, H107⟩
        · obtain ⟨t42, b108, H109⟩ := bind_inv H107
          refine Z1 c106 ?_
          refine ZC0 (law17_awake_ok b108) ?_
          refine Z1 c106 ?_
          obtain rfl := Zi H109
          exact ⟨⟨t42, rfl⟩, ZR []⟩
        · refine Z1 c106 ?_
          obtain rfl := Zi H107
          exact ⟨⟨false, rfl⟩, ZR []⟩
      · rintro ⟨t6, he110⟩
        replace he110 := he110.symm
        subst he110
        try dsimp only at H103
        refine ZT 1 ?_
        refine Z0 ?_
        obtain rfl := Zi H103
        exact ZE0
    · refine runR_condF (by rfl) c100 ?_
      refine Z1 c100 ?_
      refine ZT 1 ?_
      refine Z1 c100 ?_
      refine runR_seq ?_
      refine ZT 1 ?_
      refine Z1 c100 ?_
      refine runR_seq ?_
      refine runR_seq ?_
      obtain ⟨e_9, E111, H112⟩ := bind_inv H101
      refine runR_join (α := { y : Bool // e_9 = y }) (fun | ⟨t742, _⟩ => ⟨upd 1 (.v (.int .i64 t1)) (upd 2 (.v (.int .i64 t2)) (upd 74 (.v (.bool t742)) noFr)), noHp, 0⟩) ?_ ?_
      · refine ZT 1 ?_
        refine Z0 ?_
        rcases ite_inv E111 with ⟨c113, H114⟩ | ⟨c113, H114⟩
        · obtain ⟨t50, b115, H116⟩ := bind_inv H114
          refine Z1 c113 ?_
          refine ZC0 (acls_Parent_ok b115) ?_
          refine Z1 c113 ?_
          rcases ite_inv H116 with ⟨c117, H118⟩ | ⟨c117, H118⟩
          · obtain ⟨t56, b119, H120⟩ := bind_inv H118
            refine Z1 (Y2 c113 c117) ?_
            refine ZC0 (acls_Path_ok b119) ?_
            refine Z1 (Y2 c113 c117) ?_
            rcases ite_inv H120 with ⟨c121, H122⟩ | ⟨c121, H122⟩
            · obtain ⟨s7, b123, H124⟩ := bind_inv H122
              obtain ⟨h125, h126⟩ := cat_inv b123
              have h127 : t74.size + 1 ≤ maxLen := h125
              obtain ⟨t63, b128, H129⟩ := bind_inv H124
              refine Z1 (Y6 c113 c117 c121 h125 h126 h127) ?_
              refine ZC0 (acls_Path_ok b128) ?_
              refine Z1 (Y6 c113 c117 c121 h125 h126 h127) ?_
              rcases ite_inv H129 with ⟨c130, H131⟩ | ⟨c130, H131⟩
              · refine Z1 (Y2 (Y6 c113 c117 c121 h125 h126 h127) c130) ?_
                obtain rfl := Zi H131
                exact ⟨⟨true, rfl⟩, ZR []⟩
              · obtain ⟨s8, b132, H133⟩ := bind_inv H131
                obtain ⟨h134, h135⟩ := cat_inv b132
                have h136 : t74.size + 3 ≤ maxLen := h134
                obtain ⟨t68, b137, H138⟩ := bind_inv H133
                refine Z1 (Y2 (Y6 c113 c117 c121 h125 h126 h127) (Y4 c130 h134 h135 h136)) ?_
                refine ZC0 (acls_Path_ok b137) ?_
                refine Z1 (Y2 (Y6 c113 c117 c121 h125 h126 h127) (Y4 c130 h134 h135 h136)) ?_
                rcases ite_inv H138 with ⟨c139, H140⟩ | ⟨c139, H140⟩
                · refine Z1 (Y2 (Y6 c113 c117 c121 h125 h126 h127) (Y5 c130 h134 h135 h136 c139)) ?_
                  obtain rfl := Zi H140
                  exact ⟨⟨true, rfl⟩, ZR []⟩
                · obtain ⟨s9, b141, H142⟩ := bind_inv H140
                  obtain ⟨h143, h144, h145, h146⟩ := bslc_inv b141
                  have h147 : 1 ≤ t74.size := by omega
                  have h148 : t74.size ≤ t74.size := by omega
                  have h149 : ByteArray.extract t74 (1) (t74.size) = s9 := h146.symm
                  try simp only [Int.toNat_natCast] at h147 h148 h149
                  obtain ⟨t732, b150, H151⟩ := bind_inv H142
                  refine Z1 (Y3 (Y6 c113 c117 c121 h125 h126 h127) (Y6 c130 h134 h135 h136 c139 (nat_of .i64 h143)) (Y3 h147 h148 h149)) ?_
                  refine ZC0 (acls_Path_ok b150) ?_
                  refine Z1 (Y3 (Y6 c113 c117 c121 h125 h126 h127) (Y6 c130 h134 h135 h136 c139 (nat_of .i64 h143)) (Y3 h147 h148 h149)) ?_
                  obtain rfl := Zi H151
                  exact ⟨⟨t732, rfl⟩, ZR []⟩
            · refine Z1 (Y3 c113 c117 c121) ?_
              obtain rfl := Zi H122
              exact ⟨⟨true, rfl⟩, ZR []⟩
          · refine Z1 (Y2 c113 c117) ?_
            obtain rfl := Zi H118
            exact ⟨⟨true, rfl⟩, ZR []⟩
        · obtain ⟨t562, b152, H153⟩ := bind_inv H114
          refine Z1 c113 ?_
          refine ZC0 (acls_Path_ok b152) ?_
          refine Z1 c113 ?_
          rcases ite_inv H153 with ⟨c154, H155⟩ | ⟨c154, H155⟩
          · obtain ⟨s10, b156, H157⟩ := bind_inv H155
            obtain ⟨h158, h159⟩ := cat_inv b156
            have h160 : t74.size + 1 ≤ maxLen := h158
            obtain ⟨t632, b161, H162⟩ := bind_inv H157
            refine Z1 (Y5 c113 c154 h158 h159 h160) ?_
            refine ZC0 (acls_Path_ok b161) ?_
            refine Z1 (Y5 c113 c154 h158 h159 h160) ?_
            rcases ite_inv H162 with ⟨c163, H164⟩ | ⟨c163, H164⟩
            · refine Z1 (Y6 c113 c154 h158 h159 h160 c163) ?_
              obtain rfl := Zi H164
              exact ⟨⟨true, rfl⟩, ZR []⟩
            · obtain ⟨s11, b165, H166⟩ := bind_inv H164
              obtain ⟨h167, h168⟩ := cat_inv b165
              have h169 : t74.size + 3 ≤ maxLen := h167
              obtain ⟨t682, b170, H171⟩ := bind_inv H166
              refine Z1 (Y2 (Y6 c113 c154 h158 h159 h160 c163) (Y3 h167 h168 h169)) ?_
              refine ZC0 (acls_Path_ok b170) ?_
              refine Z1 (Y2 (Y6 c113 c154 h158 h159 h160 c163) (Y3 h167 h168 h169)) ?_
              rcases ite_inv H171 with ⟨c172, H173⟩ | ⟨c172, H173⟩
              · refine Z1 (Y2 (Y6 c113 c154 h158 h159 h160 c163) (Y4 h167 h168 h169 c172)) ?_
                obtain rfl := Zi H173
                exact ⟨⟨true, rfl⟩, ZR []⟩
              · obtain ⟨s12, b174, H175⟩ := bind_inv H173
                obtain ⟨h176, h177, h178, h179⟩ := bslc_inv b174
                have h180 : 1 ≤ t74.size := by omega
                have h181 : t74.size ≤ t74.size := by omega
                have h182 : ByteArray.extract t74 (1) (t74.size) = s12 := h179.symm
                try simp only [Int.toNat_natCast] at h180 h181 h182
                obtain ⟨t733, b183, H184⟩ := bind_inv H175
                refine Z1 (Y3 (Y6 c113 c154 h158 h159 h160 c163) (Y6 h167 h168 h169 c172 (nat_of .i64 h176) h180) (Y2 h181 h182)) ?_
                refine ZC0 (acls_Path_ok b183) ?_
                refine Z1 (Y3 (Y6 c113 c154 h158 h159 h160 c163) (Y6 h167 h168 h169 c172 (nat_of .i64 h176) h180) (Y2 h181 h182)) ?_
                obtain rfl := Zi H184
                exact ⟨⟨t733, rfl⟩, ZR []⟩
          · refine Z1 (Y2 c113 c154) ?_
            obtain rfl := Zi H155
            exact ⟨⟨true, rfl⟩, ZR []⟩
      · rintro ⟨t742, he270⟩
        replace he270 := he270.symm
        subst he270
        try dsimp only at H112
        refine ZT 1 ?_
        refine Z0 ?_
        rcases ite_inv H112 with ⟨c185, H186⟩ | ⟨c185, H186⟩
        · refine Z1 c185 ?_
          obtain rfl := Zi H186
          exact ZE0
        · refine Z1 c185 ?_
          refine runR_seq ?_
          refine ZT 1 ?_
          refine Z1 c185 ?_
          refine runR_seq ?_
          refine ZT 1 ?_
          refine Z1 c185 ?_
          refine runR_seq ?_
          refine runR_seq ?_
          refine ZT 1 ?_
          refine Z1 c185 ?_
          obtain ⟨e_10, E187, H188⟩ := bind_inv H186
          refine runR_join (α := { y : ByteArray // e_10 = y }) (fun | ⟨t119, _⟩ => ⟨upd 2 (.v (.int .i64 (IntKind.i64.wrap (an t2 31 : Int)))) (upd 11 (.v (.string t119)) noFr), noHp, 0⟩) ?_ ?_
          · refine runR_block ?_
            refine runR_loop (α := { q : Nat × (ByteArray × Int) // law17_AclsPaths_L2 n t1 t2 q.1 q.2 = some e_10 }) (fun | ⟨⟨c, ⟨t114, t12⟩⟩, _⟩ => ⟨upd 1 (.v (.int .i64 (IntKind.i64.wrap ((IntKind.i64.wrap (an t1 7 : Int)) + 4)))) (upd 2 (.v (.int .i64 (IntKind.i64.wrap (an t2 31 : Int)))) (upd 11 (.v (.string t114)) (upd 12 (.v (.int .i64 t12)) noFr))), noHp, 0⟩) (fun q => q.1.1) ⟨(n, ({ data := #[] }, 0)), E187⟩ ?_ ?_
            · exact ZR []
            · rintro ⟨⟨c, ⟨t114, t12⟩⟩, L189⟩
              rcases c with _ | c
              · exact nomatch (show none = some _ from L189)
              · unfold law17_AclsPaths_L2 at L189
                try dsimp only at L189
                refine runR_seq ?_
                refine ZT 1 ?_
                refine Z0 ?_
                rcases ite_inv L189 with ⟨c214, H215⟩ | ⟨c214, H215⟩
                · refine Z1 c214 ?_
                  refine runR_seq ?_
                  refine runR_block ?_
                  refine runR_seq ?_
                  refine ZT 1 ?_
                  obtain ⟨s16, b216, H217⟩ := bind_inv H215
                  obtain ⟨h218, h219⟩ := cat_inv b216
                  have h220 : t114.size + 1 ≤ maxLen := h218
                  refine Z1 (Y4 c214 h218 h219 h220) ?_
                  refine runR_seq ?_
                  refine ZT 1 ?_
                  refine Z1 (Y4 c214 h218 h219 h220) ?_
                  obtain ⟨e_12, E221, H222⟩ := bind_inv H217
                  refine runR_join (α := { y : ByteArray // e_12 = y }) (fun | ⟨t117, _⟩ => ⟨upd 1 (.v (.int .i64 (IntKind.i64.wrap ((IntKind.i64.wrap (an t1 7 : Int)) + 4)))) (upd 2 (.v (.int .i64 (IntKind.i64.wrap (an t2 31 : Int)))) (upd 11 (.v (.string t117)) (upd 12 (.v (.int .i64 t12)) noFr))), noHp, 0⟩) ?_ ?_
                  · refine runR_block ?_
                    refine runR_loop (α := { q : Nat × (ByteArray × Int) // law17_AclsPaths_L3 n t2 q.1 q.2 = some e_12 }) (fun | ⟨⟨c, ⟨t115, t133⟩⟩, _⟩ => ⟨upd 1 (.v (.int .i64 (IntKind.i64.wrap ((IntKind.i64.wrap (an t1 7 : Int)) + 4)))) (upd 2 (.v (.int .i64 (IntKind.i64.wrap (an t2 31 : Int)))) (upd 11 (.v (.string t115)) (upd 12 (.v (.int .i64 t12)) (upd 13 (.v (.int .i64 t133)) noFr)))), noHp, 0⟩) (fun q => q.1.1) ⟨(n, (s16, 0)), E221⟩ ?_ ?_
                    · exact ZR []
                    · rintro ⟨⟨c, ⟨t115, t133⟩⟩, L223⟩
                      rcases c with _ | c
                      · exact nomatch (show none = some _ from L223)
                      · unfold law17_AclsPaths_L3 at L223
                        try dsimp only at L223
                        refine ZT 1 ?_
                        refine Z0 ?_
                        rcases ite_inv L223 with ⟨c231, H232⟩ | ⟨c231, H232⟩
                        · obtain ⟨s18, b233, H234⟩ := bind_inv H232
                          obtain ⟨h235, h236⟩ := cat_inv b233
                          have h237 : t115.size + 1 ≤ maxLen := h235
                          refine Z1 (Y4 c231 h235 h236 h237) ?_
                          exact ⟨⟨(c, (s18, (IntKind.i64.wrap (t133 + 1)))), H234⟩, ZR [], Nat.lt_succ_self _⟩
                        · refine Z1 c231 ?_
                          obtain rfl := Zi H232
                          exact ⟨⟨t115, rfl⟩, ZR []⟩
                  · rintro ⟨t117, he238⟩
                    replace he238 := he238.symm
                    subst he238
                    try dsimp only at H222
                    refine Z0 ?_
                    refine ZT 1 ?_
                    refine Z0 ?_
                    exact ⟨⟨(c, (t117, (IntKind.i64.wrap (t12 + 1)))), H222⟩, ZR [], Nat.lt_succ_self _⟩
                · refine Z1 c214 ?_
                  obtain rfl := Zi H215
                  exact ⟨⟨t114, rfl⟩, ZR []⟩
          · rintro ⟨t119, he269⟩
            replace he269 := he269.symm
            subst he269
            try dsimp only at H188
            refine ZT 1 ?_
            obtain ⟨t95, b239, H240⟩ := bind_inv H188
            refine Z0 ?_
            refine ZC0 (acls_Path_ok b239) ?_
            refine Z0 ?_
            rcases ite_inv H240 with ⟨c241, H242⟩ | ⟨c241, H242⟩
            · refine Z1 c241 ?_
              rcases ite_inv H242 with ⟨c243, H244⟩ | ⟨c243, H244⟩
              · refine Z1 (Y2 c241 c243) ?_
                rcases ite_inv H244 with ⟨c245, H246⟩ | ⟨c245, H246⟩
                · obtain ⟨t109, b247, H248⟩ := bind_inv H246
                  refine Z1 (Y3 c241 c243 c245) ?_
                  refine ZC0 (ref1_Name_ok b247) ?_
                  refine Z1 (Y3 c241 c243 c245) ?_
                  rcases ite_inv H248 with ⟨c249, H250⟩ | ⟨c249, H250⟩
                  · obtain ⟨t1122, b251, H252⟩ := bind_inv H250
                    refine Z1 (Y4 c241 c243 c245 c249) ?_
                    refine ZC0 (law17_awake_ok b251) ?_
                    refine Z1 (Y4 c241 c243 c245 c249) ?_
                    obtain rfl := Zi H252
                    exact ZE0
                  · refine Z1 (Y4 c241 c243 c245 c249) ?_
                    obtain rfl := Zi H250
                    exact ZE0
                · refine Z1 (Y3 c241 c243 c245) ?_
                  obtain rfl := Zi H246
                  exact ZE0
              · refine Z1 (Y2 c241 c243) ?_
                rcases ite_inv H244 with ⟨c253, H254⟩ | ⟨c253, H254⟩
                · obtain ⟨t1092, b255, H256⟩ := bind_inv H254
                  refine Z1 (Y3 c241 c243 c253) ?_
                  refine ZC0 (ref1_Name_ok b255) ?_
                  refine Z1 (Y3 c241 c243 c253) ?_
                  rcases ite_inv H256 with ⟨c257, H258⟩ | ⟨c257, H258⟩
                  · obtain ⟨t1123, b259, H260⟩ := bind_inv H258
                    refine Z1 (Y4 c241 c243 c253 c257) ?_
                    refine ZC0 (law17_awake_ok b259) ?_
                    refine Z1 (Y4 c241 c243 c253 c257) ?_
                    obtain rfl := Zi H260
                    exact ZE0
                  · refine Z1 (Y4 c241 c243 c253 c257) ?_
                    obtain rfl := Zi H258
                    exact ZE0
                · refine Z1 (Y3 c241 c243 c253) ?_
                  obtain rfl := Zi H254
                  exact ZE0
            · refine Z1 c241 ?_
              rcases ite_inv H242 with ⟨c261, H262⟩ | ⟨c261, H262⟩
              · obtain ⟨t1093, b263, H264⟩ := bind_inv H262
                refine Z1 (Y2 c241 c261) ?_
                refine ZC0 (ref1_Name_ok b263) ?_
                refine Z1 (Y2 c241 c261) ?_
                rcases ite_inv H264 with ⟨c265, H266⟩ | ⟨c265, H266⟩
                · obtain ⟨t1124, b267, H268⟩ := bind_inv H266
                  refine Z1 (Y3 c241 c261 c265) ?_
                  refine ZC0 (law17_awake_ok b267) ?_
                  refine Z1 (Y3 c241 c261 c265) ?_
                  obtain rfl := Zi H268
                  exact ZE0
                · refine Z1 (Y3 c241 c261 c265) ?_
                  obtain rfl := Zi H266
                  exact ZE0
              · refine Z1 (Y2 c241 c261) ?_
                obtain rfl := Zi H262
                exact ZE0
end Go.Proofs.YtkikhbfdadambaaDoor.Ab
