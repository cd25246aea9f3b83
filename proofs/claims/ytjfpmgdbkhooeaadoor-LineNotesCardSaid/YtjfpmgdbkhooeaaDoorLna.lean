/-
  Functions, read off the code.
-/
import Derived.Test.YtjfpmgdbkhooeaaDoorLns
import Derived.Test.YtjfpmgdbkhooeaaDoorLta
namespace Go.Proofs.YtjfpmgdbkhooeaaDoor.Ab
open Go.RowKit
def law12_LineNotes_L1 (n : Nat) (t0 : List Int) : Nat → (ByteArray × Int × Int) → Option (ByteArray × Int)
  | 0, _ => none
  | c + 1, (t5, t6, t7) =>
    (
      (if (decide (t7 < (t0.length : Int))) then
        some (decide (t7 < 10))
      else
        some false) : Option (Bool)).bind fun t252 =>
    (if t252 then
      (idx t0 t7).bind fun x6 =>
      (idx ([{ data := #[] }, { data := #[32] }, { data := #[9] }, { data := #[32, 32, 9] }] : List ByteArray) (IntKind.i64.wrap (an (sh x6 4) 3 : Int))).bind fun x7 =>
      (cat t5 x7).bind fun s4 =>
      (idx ([{ data := #[97] }, { data := #[98] }, { data := #[117, 115, 101, 114] }, { data := #[47, 120] }, { data := #[49, 35] }] : List ByteArray) (Int.tmod (IntKind.i64.wrap (an x6 255 : Int)) 5)).bind fun x8 =>
      (cat s4 x8).bind fun s5 =>
      (idx ([{ data := #[32] }, { data := #[9] }, { data := #[32, 9, 32] }] : List ByteArray) (Int.tmod (IntKind.i64.wrap (an (sh x6 8) 255 : Int)) 3)).bind fun x9 =>
      (cat s5 x9).bind fun s6 =>
      law12_LineNotes_L1 n t0 c (s6, (IntKind.i64.wrap (t6 + 1)), (IntKind.i64.wrap (t7 + 1)))
    else
      some (t5, t6))

def law12_LineNotes_L2 (n : Nat) (t0 : List Int) (t63 : Int) (s7 : ByteArray) (t722 : List GLine × Int × Int) : Nat → Int → Option ((Unit) ⊕ Bool)
  | 0, _ => none
  | c + 1, t11 =>
    (if (decide (t11 < t63)) then
      (idx t722.1 0).bind fun x17 =>
      (idx x17.words t11).bind fun x18 =>
      (idx t0 t11).bind fun x19 =>
      (idx ([{ data := #[97] }, { data := #[98] }, { data := #[117, 115, 101, 114] }, { data := #[47, 120] }, { data := #[49, 35] }] : List ByteArray) (Int.tmod (IntKind.i64.wrap (an x19 255 : Int)) 5)).bind fun x20 =>
      (if (x18.text.toList == x20.toList) then
        (if (decide (x18.at_ < 0)) then
          some (.inr false)
        else
          (if (decide ((s7.size : Int) < (IntKind.i64.wrap (x18.at_ + (x18.text.size : Int))))) then
            some (.inr false)
          else
            (bslc s7 x18.at_ (IntKind.i64.wrap (x18.at_ + (x18.text.size : Int)))).bind fun s9 =>
            (if (s9.toList == x18.text.toList) then
              law12_LineNotes_L2 n t0 t63 s7 t722 c (IntKind.i64.wrap (t11 + 1))
            else
              some (.inr false))))
      else
        some (.inr false))
    else
      some (.inl ()))

def law12_LineNotes (n : Nat) (t0 : List Int) (t1 : Int) : Option Bool :=
  (idx ([{ data := #[] }, { data := #[35, 32, 97, 10] }, { data := #[13, 10] }, { data := #[32, 9, 10] }] : List ByteArray) (IntKind.i64.wrap (an t1 3 : Int))).bind fun x =>
  (
    law12_LineNotes_L1 n t0 n (x, 0, 0) : Option (ByteArray × Int)).bind fun (t53, t63) =>
  (idx ([{ data := #[] }, { data := #[35, 32, 98, 32, 99] }, { data := #[10, 10] }, { data := #[32, 13, 10, 35, 32, 100, 13] }] : List ByteArray) (IntKind.i64.wrap (an (sh t1 2) 3 : Int))).bind fun x10 =>
  (cat t53 x10).bind fun s7 =>
  (line_Lines n s7).bind fun t722 =>
  (if (t722.2.2 != 0) then
    some false
  else
    (if (t63 == 0) then
      (
        (if ((t722.1.length : Int) == 0) then
          (law12_awake n).bind fun t84 =>
          some t84
        else
          some false) : Option (Bool)).bind fun t4 =>
      some t4
    else
      (
        (if ((t722.1.length : Int) != 1) then
          some true
        else
          (idx t722.1 0).bind fun x11 =>
          (if ((x11.words.length : Int) != t63) then
            some true
          else
            (idx x11.words 0).bind fun x12 =>
            some (x11.at_ != x12.at_))) : Option (Bool)).bind fun t111 =>
      (if t111 then
        some false
      else
        (
          law12_LineNotes_L2 n t0 t63 s7 t722 n 0 : Option ((Unit) ⊕ Bool)).bind fun
          | .inl _ =>
            (law12_awake n).bind fun t167 =>
            some t167
          | .inr r => some r)))
set_option maxHeartbeats 8000000 in
theorem law12_LineNotes_ok {n : Nat} {t0 : List Int} {t1 : Int} {r : Bool} (H : law12_LineNotes n t0 t1 = some r) : PureOK Tryd.prog 4 [D.sl (List.map eI t0), D.v (.int .i64 t1)] (D.v (.bool r)) true := by
  unfold law12_LineNotes at H
  refine ZP tab_ok fol (rs := #[.tmp 4]) Tryd.func4 ?_
  refine runR_seq ?_
  refine ZT 1 ?_
  refine Z0 ?_
  refine runR_seq ?_
  refine ZT 1 ?_
  obtain ⟨x, b1, H2⟩ := bind_inv H
  obtain ⟨h3, h4⟩ := idx_inv b1
  try simp only [Int.reduceToNat, Int.toNat_natCast] at h4
  have h5 := map_at eS h4
  simp only [List.map_cons, List.map_nil, eS] at h5
  have h6 := at_lt h4
  simp only [List.length_cons, List.length_nil, Nat.reduceAdd] at h6
  refine Z1 (Y3 (nat_of .i64 h3) h5 h6) ?_
  refine runR_seq ?_
  refine ZT 1 ?_
  refine Z1 (Y3 (nat_of .i64 h3) h5 h6) ?_
  refine runR_seq ?_
  refine runR_seq ?_
  refine ZT 1 ?_
  refine Z1 (Y3 (nat_of .i64 h3) h5 h6) ?_
  obtain ⟨e_, E7, H8⟩ := bind_inv H2
  refine runR_join (α := { y : ByteArray × Int // e_ = y }) (fun | ⟨⟨t53, t63⟩, _⟩ => ⟨upd 0 (.d (.sl (List.map eI t0)) true) (upd 1 (.v (.int .i64 t1)) (upd 5 (.v (.string t53)) (upd 6 (.v (.int .i64 t63)) noFr))), noHp, 0⟩) ?_ ?_
  · refine runR_block ?_
    refine runR_loop (α := { q : Nat × (ByteArray × Int × Int) // law12_LineNotes_L1 n t0 q.1 q.2 = some e_ }) (fun | ⟨⟨c, ⟨t5, t6, t7⟩⟩, _⟩ => ⟨upd 0 (.d (.sl (List.map eI t0)) true) (upd 1 (.v (.int .i64 t1)) (upd 5 (.v (.string t5)) (upd 6 (.v (.int .i64 t6)) (upd 7 (.v (.int .i64 t7)) noFr)))), noHp, 0⟩) (fun q => q.1.1) ⟨(n, (x, 0, 0)), E7⟩ ?_ ?_
    · exact ZR []
    · rintro ⟨⟨c, ⟨t5, t6, t7⟩⟩, L9⟩
      rcases c with _ | c
      · exact nomatch (show none = some _ from L9)
      · unfold law12_LineNotes_L1 at L9
        try dsimp only at L9
        refine runR_seq ?_
        refine runR_seq ?_
        obtain ⟨e_3, E53, H54⟩ := bind_inv L9
        refine runR_join (α := { y : Bool // e_3 = y }) (fun | ⟨t252, _⟩ => ⟨upd 0 (.d (.sl (List.map eI t0)) true) (upd 1 (.v (.int .i64 t1)) (upd 5 (.v (.string t5)) (upd 6 (.v (.int .i64 t6)) (upd 7 (.v (.int .i64 t7)) (upd 25 (.v (.bool t252)) noFr))))), noHp, 0⟩) ?_ ?_
        · refine ZT 1 ?_
          refine Z0 ?_
          rcases ite_inv E53 with ⟨c55, H56⟩ | ⟨c55, H56⟩
          · refine Z1 c55 ?_
            obtain rfl := Zi H56
            exact ⟨⟨(decide (t7 < 10)), rfl⟩, ZR []⟩
          · refine Z1 c55 ?_
            obtain rfl := Zi H56
            exact ⟨⟨false, rfl⟩, ZR []⟩
        · rintro ⟨t252, he95⟩
          replace he95 := he95.symm
          subst he95
          try dsimp only at H54
          refine ZT 2 ?_
          refine Z0 ?_
          rcases ite_inv H54 with ⟨c57, H58⟩ | ⟨c57, H58⟩
          · obtain ⟨x6, b59, H60⟩ := bind_inv H58
            obtain ⟨h61, h62⟩ := idx_inv b59
            try simp only [Int.reduceToNat, Int.toNat_natCast] at h62
            have h63 := map_at eI h62
            obtain ⟨x7, b65, H66⟩ := bind_inv H60
            obtain ⟨h67, h68⟩ := idx_inv b65
            try simp only [Int.reduceToNat, Int.toNat_natCast] at h68
            have h69 := map_at eS h68
            simp only [List.map_cons, List.map_nil, eS] at h69
            have h70 := at_lt h68
            simp only [List.length_cons, List.length_nil, Nat.reduceAdd] at h70
            obtain ⟨s4, b71, H72⟩ := bind_inv H66
            obtain ⟨h73, h74⟩ := cat_inv b71
            obtain ⟨x8, b75, H76⟩ := bind_inv H72
            obtain ⟨h77, h78⟩ := idx_inv b75
            try simp only [Int.reduceToNat, Int.toNat_natCast] at h78
            have h79 := map_at eS h78
            simp only [List.map_cons, List.map_nil, eS] at h79
            have h80 := at_lt h78
            simp only [List.length_cons, List.length_nil, Nat.reduceAdd] at h80
            obtain ⟨s5, b81, H82⟩ := bind_inv H76
            obtain ⟨h83, h84⟩ := cat_inv b81
            obtain ⟨x9, b85, H86⟩ := bind_inv H82
            obtain ⟨h87, h88⟩ := idx_inv b85
            try simp only [Int.reduceToNat, Int.toNat_natCast] at h88
            have h89 := map_at eS h88
            simp only [List.map_cons, List.map_nil, eS] at h89
            have h90 := at_lt h88
            simp only [List.length_cons, List.length_nil, Nat.reduceAdd] at h90
            obtain ⟨s6, b91, H92⟩ := bind_inv H86
            obtain ⟨h93, h94⟩ := cat_inv b91
            refine Z1 (Y3 (Y6 c57 (nat_of .i64 h61) h63 (nat_of .i64 h67) h69 h70) (Y6 h73 h74 (nat_of .i64 h77) h79 h80 h83) (Y6 h84 (nat_of .i64 h87) h89 h90 h93 h94)) ?_
            refine Rd_endF (by kernel_rfl) ?_
            refine Z1 (Y3 (Y6 c57 (nat_of .i64 h61) h63 (nat_of .i64 h67) h69 h70) (Y6 h73 h74 (nat_of .i64 h77) h79 h80 h83) (Y6 h84 (nat_of .i64 h87) h89 h90 h93 h94)) ?_
            exact ⟨⟨(c, (s6, (IntKind.i64.wrap (t6 + 1)), (IntKind.i64.wrap (t7 + 1)))), H92⟩, ZR [], Nat.lt_succ_self _⟩
          · refine Z1 c57 ?_
            obtain rfl := Zi H58
            exact ⟨⟨(t5, t6), rfl⟩, ZR []⟩
  · rintro ⟨⟨t53, t63⟩, he232⟩
    replace he232 := he232.symm
    subst he232
    try dsimp only at H8
    refine runR_seq ?_
    refine ZT 1 ?_
    obtain ⟨x10, b96, H97⟩ := bind_inv H8
    obtain ⟨h98, h99⟩ := idx_inv b96
    try simp only [Int.reduceToNat, Int.toNat_natCast] at h99
    have h100 := map_at eS h99
    simp only [List.map_cons, List.map_nil, eS] at h100
    have h101 := at_lt h99
    simp only [List.length_cons, List.length_nil, Nat.reduceAdd] at h101
    obtain ⟨s7, b102, H103⟩ := bind_inv H97
    obtain ⟨h104, h105⟩ := cat_inv b102
    refine Z1 (Y5 (nat_of .i64 h98) h100 h101 h104 h105) ?_
    refine runR_seq ?_
    refine ZT 1 ?_
    obtain ⟨t722, b106, H107⟩ := bind_inv H103
    refine Z1 (Y5 (nat_of .i64 h98) h100 h101 h104 h105) ?_
    refine ZC0 (line_Lines_ok b106) ?_
    refine Z1 (Y5 (nat_of .i64 h98) h100 h101 h104 h105) ?_
    refine runR_seq ?_
    refine ZT 1 ?_
    refine Z1 (Y5 (nat_of .i64 h98) h100 h101 h104 h105) ?_
    rcases ite_inv H107 with ⟨c108, H109⟩ | ⟨c108, H109⟩
    · refine Z1 (Y6 (nat_of .i64 h98) h100 h101 h104 h105 c108) ?_
      obtain rfl := Zi H109
      exact ZE0
    · refine Z1 (Y6 (nat_of .i64 h98) h100 h101 h104 h105 c108) ?_
      refine runR_seq ?_
      refine runR_seq ?_
      refine ZT 1 ?_
      refine Z1 (Y6 (nat_of .i64 h98) h100 h101 h104 h105 c108) ?_
      rcases ite_inv H109 with ⟨c110, H111⟩ | ⟨c110, H111⟩
      · refine runR_condT (by rfl) c110 ?_
        refine Z1 (Y2 (Y6 (nat_of .i64 h98) h100 h101 h104 h105 c108) c110) ?_
        refine runR_seq ?_
        obtain ⟨e_4, E112, H113⟩ := bind_inv H111
        refine runR_join (α := { y : Bool // e_4 = y }) (fun | ⟨t4, _⟩ => ⟨upd 4 (.v (.bool t4)) noFr, noHp, 0⟩) ?_ ?_
        · refine ZT 1 ?_
          refine Z0 ?_
          rcases ite_inv E112 with ⟨c114, H115⟩ | ⟨c114, H115⟩
          · obtain ⟨t84, b116, H117⟩ := bind_inv H115
            refine Z1 c114 ?_
            refine ZC0 (law12_awake_ok b116) ?_
            refine Z1 c114 ?_
            obtain rfl := Zi H117
            exact ⟨⟨t84, rfl⟩, ZR []⟩
          · refine Z1 c114 ?_
            obtain rfl := Zi H115
            exact ⟨⟨false, rfl⟩, ZR []⟩
        · rintro ⟨t4, he118⟩
          replace he118 := he118.symm
          subst he118
          try dsimp only at H113
          refine ZT 1 ?_
          refine Z0 ?_
          obtain rfl := Zi H113
          exact ZE0
      · refine runR_condF (by rfl) c110 ?_
        refine Z1 (Y2 (Y6 (nat_of .i64 h98) h100 h101 h104 h105 c108) c110) ?_
        refine ZT 1 ?_
        refine Z1 (Y2 (Y6 (nat_of .i64 h98) h100 h101 h104 h105 c108) c110) ?_
        refine runR_seq ?_
        refine runR_seq ?_
        obtain ⟨e_5, E119, H120⟩ := bind_inv H111
        refine runR_join (α := { y : Bool // e_5 = y }) (fun | ⟨t111, _⟩ => ⟨upd 0 (.d (.sl (List.map eI t0)) true) (upd 5 (.v (.string s7)) (upd 6 (.v (.int .i64 t63)) (upd 8 (.d (.sl (List.map eGLine t722.1)) false) (upd 111 (.v (.bool t111)) noFr)))), noHp, 0⟩) ?_ ?_
        · refine ZT 1 ?_
          refine Z0 ?_
          rcases ite_inv E119 with ⟨c121, H122⟩ | ⟨c121, H122⟩
          · refine Z1 c121 ?_
            refine Rd_endF (by rfl) ?_
            refine Z1 c121 ?_
            obtain rfl := Zi H122
            exact ⟨⟨true, rfl⟩, ZR []⟩
          · obtain ⟨x11, b123, H124⟩ := bind_inv H122
            obtain ⟨h125, h126⟩ := idx_inv b123
            try simp only [Int.reduceToNat, Int.toNat_natCast] at h126
            have h127 := map_at eGLine h126
            refine Z1 (Y3 c121 (nat_of .i64 h125) h127) ?_
            rcases ite_inv H124 with ⟨c129, H130⟩ | ⟨c129, H130⟩
            · refine Z1 (Y4 c121 (nat_of .i64 h125) h127 c129) ?_
              refine Rd_endF (by rfl) ?_
              refine Z1 (Y4 c121 (nat_of .i64 h125) h127 c129) ?_
              obtain rfl := Zi H130
              exact ⟨⟨true, rfl⟩, ZR []⟩
            · obtain ⟨x12, b131, H132⟩ := bind_inv H130
              obtain ⟨h133, h134⟩ := idx_inv b131
              try simp only [Int.reduceToNat, Int.toNat_natCast] at h134
              have h135 := map_at eGWord h134
              refine Z1 (Y6 c121 (nat_of .i64 h125) h127 c129 (nat_of .i64 h133) h135) ?_
              refine Rd_endF (by rfl) ?_
              refine Z1 (Y6 c121 (nat_of .i64 h125) h127 c129 (nat_of .i64 h133) h135) ?_
              obtain rfl := Zi H132
              exact ⟨⟨(x11.at_ != x12.at_), rfl⟩, ZR []⟩
        · rintro ⟨t111, he231⟩
          replace he231 := he231.symm
          subst he231
          try dsimp only at H120
          refine ZT 1 ?_
          refine Z0 ?_
          rcases ite_inv H120 with ⟨c137, H138⟩ | ⟨c137, H138⟩
          · refine Z1 c137 ?_
            obtain rfl := Zi H138
            exact ZE0
          · refine Z1 c137 ?_
            refine runR_seq ?_
            refine runR_seq ?_
            refine ZT 1 ?_
            refine Z1 c137 ?_
            obtain ⟨e_6, E139, H140⟩ := bind_inv H138
            refine runR_join (α := { y : Unit // e_6 = .inl y }) (fun | ⟨_, _⟩ => ⟨noFr, noHp, 0⟩) ?_ ?_
            · refine runR_block ?_
              refine runR_loop (α := { q : Nat × Int // law12_LineNotes_L2 n t0 t63 s7 t722 q.1 q.2 = some e_6 }) (fun | ⟨⟨c, t11⟩, _⟩ => ⟨upd 0 (.d (.sl (List.map eI t0)) true) (upd 5 (.v (.string s7)) (upd 6 (.v (.int .i64 t63)) (upd 8 (.d (.sl (List.map eGLine t722.1)) false) (upd 11 (.v (.int .i64 t11)) noFr)))), noHp, 0⟩) (fun q => q.1.1) ⟨(n, 0), E139⟩ ?_ ?_
              · exact ZR []
              · rintro ⟨⟨c, t11⟩, L141⟩
                rcases c with _ | c
                · exact nomatch (show none = some _ from L141)
                · unfold law12_LineNotes_L2 at L141
                  try dsimp only at L141
                  refine ZT 1 ?_
                  refine Z0 ?_
                  rcases ite_inv L141 with ⟨c185, H186⟩ | ⟨c185, H186⟩
                  · obtain ⟨x17, b187, H188⟩ := bind_inv H186
                    obtain ⟨h189, h190⟩ := idx_inv b187
                    try simp only [Int.reduceToNat, Int.toNat_natCast] at h190
                    have h191 := map_at eGLine h190
                    obtain ⟨x18, b193, H194⟩ := bind_inv H188
                    obtain ⟨h195, h196⟩ := idx_inv b193
                    try simp only [Int.reduceToNat, Int.toNat_natCast] at h196
                    have h197 := map_at eGWord h196
                    obtain ⟨x19, b199, H200⟩ := bind_inv H194
                    obtain ⟨h201, h202⟩ := idx_inv b199
                    try simp only [Int.reduceToNat, Int.toNat_natCast] at h202
                    have h203 := map_at eI h202
                    obtain ⟨x20, b205, H206⟩ := bind_inv H200
                    obtain ⟨h207, h208⟩ := idx_inv b205
                    try simp only [Int.reduceToNat, Int.toNat_natCast] at h208
                    have h209 := map_at eS h208
                    simp only [List.map_cons, List.map_nil, eS] at h209
                    have h210 := at_lt h208
                    simp only [List.length_cons, List.length_nil, Nat.reduceAdd] at h210
                    refine Z1 (Y2 (Y6 c185 (nat_of .i64 h189) h191 (nat_of .i64 h195) h197 (nat_of .i64 h201)) (Y4 h203 (nat_of .i64 h207) h209 h210)) ?_
                    rcases ite_inv H206 with ⟨c211, H212⟩ | ⟨c211, H212⟩
                    · refine Z1 (Y2 (Y6 c185 (nat_of .i64 h189) h191 (nat_of .i64 h195) h197 (nat_of .i64 h201)) (Y5 h203 (nat_of .i64 h207) h209 h210 c211)) ?_
                      rcases ite_inv H212 with ⟨c213, H214⟩ | ⟨c213, H214⟩
                      · refine Z1 (Y2 (Y6 c185 (nat_of .i64 h189) h191 (nat_of .i64 h195) h197 (nat_of .i64 h201)) (Y6 h203 (nat_of .i64 h207) h209 h210 c211 c213)) ?_
                        refine Rd_endF (by kernel_rfl) ?_
                        refine Z1 (Y2 (Y6 c185 (nat_of .i64 h189) h191 (nat_of .i64 h195) h197 (nat_of .i64 h201)) (Y6 h203 (nat_of .i64 h207) h209 h210 c211 c213)) ?_
                        obtain rfl := Zi H214
                        obtain rfl := Zi H140
                        exact ZE0
                      · refine Z1 (Y2 (Y6 c185 (nat_of .i64 h189) h191 (nat_of .i64 h195) h197 (nat_of .i64 h201)) (Y6 h203 (nat_of .i64 h207) h209 h210 c211 c213)) ?_
                        rcases ite_inv H214 with ⟨c215, H216⟩ | ⟨c215, H216⟩
                        · refine Z1 (Y3 (Y6 c185 (nat_of .i64 h189) h191 (nat_of .i64 h195) h197 (nat_of .i64 h201)) (Y6 h203 (nat_of .i64 h207) h209 h210 c211 c213) c215) ?_
                          refine Rd_endF (by kernel_rfl) ?_
                          refine Z1 (Y3 (Y6 c185 (nat_of .i64 h189) h191 (nat_of .i64 h195) h197 (nat_of .i64 h201)) (Y6 h203 (nat_of .i64 h207) h209 h210 c211 c213) c215) ?_
                          obtain rfl := Zi H216
                          obtain rfl := Zi H140
                          exact ZE0
                        · obtain ⟨s9, b217, H218⟩ := bind_inv H216
                          obtain ⟨h219, h220, h221, h222⟩ := bslc_inv b217
                          have h223 : Int.toNat x18.at_ ≤ Int.toNat (IntKind.i64.wrap (x18.at_ + (x18.text.size : Int))) := by omega
                          have h224 : Int.toNat (IntKind.i64.wrap (x18.at_ + (x18.text.size : Int))) ≤ s7.size := by omega
                          have h225 : ByteArray.extract s7 (Int.toNat x18.at_) (Int.toNat (IntKind.i64.wrap (x18.at_ + (x18.text.size : Int)))) = s9 := h222.symm
                          try simp only [Int.toNat_natCast] at h223 h224 h225
                          refine Z1 (Y3 (Y6 c185 (nat_of .i64 h189) h191 (nat_of .i64 h195) h197 (nat_of .i64 h201)) (Y6 h203 (nat_of .i64 h207) h209 h210 c211 c213) (Y6 c215 (nat_of .i64 h219) (nat_of .i64 (Int.le_trans h219 h220)) h223 h224 h225)) ?_
                          refine Rd_endF (by kernel_rfl) ?_
                          refine Z1 (Y3 (Y6 c185 (nat_of .i64 h189) h191 (nat_of .i64 h195) h197 (nat_of .i64 h201)) (Y6 h203 (nat_of .i64 h207) h209 h210 c211 c213) (Y6 c215 (nat_of .i64 h219) (nat_of .i64 (Int.le_trans h219 h220)) h223 h224 h225)) ?_
                          rcases ite_inv H218 with ⟨c226, H227⟩ | ⟨c226, H227⟩
                          · refine Z1 (Y4 (Y6 c185 (nat_of .i64 h189) h191 (nat_of .i64 h195) h197 (nat_of .i64 h201)) (Y6 h203 (nat_of .i64 h207) h209 h210 c211 c213) (Y6 c215 (nat_of .i64 h219) (nat_of .i64 (Int.le_trans h219 h220)) h223 h224 h225) c226) ?_
                            exact ⟨⟨(c, (IntKind.i64.wrap (t11 + 1))), H227⟩, ZR [], Nat.lt_succ_self _⟩
                          · refine Z1 (Y4 (Y6 c185 (nat_of .i64 h189) h191 (nat_of .i64 h195) h197 (nat_of .i64 h201)) (Y6 h203 (nat_of .i64 h207) h209 h210 c211 c213) (Y6 c215 (nat_of .i64 h219) (nat_of .i64 (Int.le_trans h219 h220)) h223 h224 h225) c226) ?_
                            obtain rfl := Zi H227
                            obtain rfl := Zi H140
                            exact ZE0
                    · refine Z1 (Y2 (Y6 c185 (nat_of .i64 h189) h191 (nat_of .i64 h195) h197 (nat_of .i64 h201)) (Y5 h203 (nat_of .i64 h207) h209 h210 c211)) ?_
                      refine Rd_endF (by kernel_rfl) ?_
                      refine Z1 (Y2 (Y6 c185 (nat_of .i64 h189) h191 (nat_of .i64 h195) h197 (nat_of .i64 h201)) (Y5 h203 (nat_of .i64 h207) h209 h210 c211)) ?_
                      obtain rfl := Zi H212
                      obtain rfl := Zi H140
                      exact ZE0
                  · refine Z1 c185 ?_
                    obtain rfl := Zi H186
                    exact ⟨⟨(), rfl⟩, ZR []⟩
            · rintro ⟨_, he230⟩
              replace he230 := he230.symm
              subst he230
              try dsimp only at H140
              refine ZT 1 ?_
              obtain ⟨t167, b228, H229⟩ := bind_inv H140
              refine Z0 ?_
              refine ZC0 (law12_awake_ok b228) ?_
              refine Z0 ?_
              obtain rfl := Zi H229
              exact ZE0
end Go.Proofs.YtjfpmgdbkhooeaaDoor.Ab
