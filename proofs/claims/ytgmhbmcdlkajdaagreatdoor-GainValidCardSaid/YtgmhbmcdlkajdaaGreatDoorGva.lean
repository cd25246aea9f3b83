/-
 Functions, read off the code.
-/
import Derived.Test.YtgmhbmcdlkajdaaGreatDoorGra
namespace Go.Proofs.YtgmhbmcdlkajdaaGreatDoor.Ab
open Go.RowKit
def law19_GainValid_L1 (n : Nat) (t1 : List Int) : Nat → (List GFile × ByteArray × Int) → Option ((Unit) ⊕ Bool)
 | 0, _ => none
 | c + 1, (t5, t6, t7) =>
  (
   (if (decide (t7 < (t1.length : Int))) then
    some (decide (t7 < 8))
   else
    some false) : Option (Bool)).bind fun t252 =>
  (if t252 then
   (cat t6 ({ data := #[47, 109] })).bind fun s4 =>
   (cat s4 ({ data := #[UInt8.ofNat (Int.toNat (IntKind.u8.wrap (48 + (IntKind.u8.wrap t7))))] } : ByteArray)).bind fun s5 =>
   (idx t1 t7).bind fun x4 =>
   (idx ([{ data := #[117] }, { data := #[118] }, { data := #[119] }] : List ByteArray) (Int.tmod (IntKind.i64.wrap (an x4 255 : Int)) 3)).bind fun x5 =>
   (idx ([{ data := #[103] }, { data := #[104] }] : List ByteArray) (IntKind.i64.wrap (an (sh x4 8) 1 : Int))).bind fun x6 =>
   (gain_New n t5 true s5 x5 x6 (IntKind.i64.wrap (an (sh x4 9) 511 : Int))).bind fun t632 =>
   (app [] t5).bind fun _ =>
   (app t5 [(⟨t632.1.kind, t632.1.name, t632.1.users, t632.1.owner, t632.1.group, t632.1.acl, t632.1.at_⟩ : GFile)]).bind fun l6 =>
   (cat s5 ({ data := #[47, 102] })).bind fun s6 =>
   (gain_New n l6 false s6 ({ data := #[117] }) ({ data := #[103] }) (IntKind.i64.wrap (an (sh x4 18) 511 : Int))).bind fun t812 =>
   (
    (if (t632.2 != 0) then
     some true
    else
     some (t812.2 != 0)) : Option (Bool)).bind fun t892 =>
   (if t892 then
    some (.inr false)
   else
    (app [] t5).bind fun _ =>
    (app t5 [(⟨t632.1.kind, t632.1.name, t632.1.users, t632.1.owner, t632.1.group, t632.1.acl, t632.1.at_⟩ : GFile), (⟨t812.1.kind, t812.1.name, t812.1.users, t812.1.owner, t812.1.group, t812.1.acl, t812.1.at_⟩ : GFile)]).bind fun l8 =>
    (ref17_Valid n l8).bind fun t992 =>
    (if (t992.2 != 0) then
     some (.inr false)
    else
     (gain_New n l8 true s5 ({ data := #[117] }) ({ data := #[103] }) 0).bind fun t1072 =>
     (if (t1072.2 != 11) then
      some (.inr false)
     else
      law19_GainValid_L1 n t1 c (l8, s5, (IntKind.i64.wrap (t7 + 1))))))
  else
   some (.inl ()))
def law19_GainValid (n : Nat) (t0 : List Int) (t1 : List Int) : Option Bool :=
 (law18_Valid n t0).bind fun t17 =>
 (
  law19_GainValid_L1 n t1 n (t17, { data := #[] }, 0) : Option ((Unit) ⊕ Bool)).bind fun
  | .inl _ =>
   (law19_awake n).bind fun t112 =>
   some t112
  | .inr r => some r
set_option maxHeartbeats 8000000 in
theorem law19_GainValid_ok {n : Nat} {t0 : List Int} {t1 : List Int} {r : Bool} (H : law19_GainValid n t0 t1 = some r) : PureOK Tryz.prog 7 [D.sl (List.map eI t0), D.sl (List.map eI t1)] (D.v (.bool r)) true := by
 unfold law19_GainValid at H
 refine ZP tab_ok fol (rs := #[.tmp 4]) Tryz.func7 ?_
 refine zsq (ZT 1 ?_)
 refine Z0 ?_
 refine zsq (ZT 1 ?_)
 obtain ⟨t17, b1, H2⟩ := zbi H
 refine Z0 ?_
 refine ZC0 (law18_Valid_ok b1) ?_
 refine Z0 ?_
 refine zsq (ZT 1 ?_)
 refine Z0 ?_
 refine zsq (zsq ?_)
 refine ZT 1 ?_
 refine Z0 ?_
 obtain ⟨e_, E3, H4⟩ := zbi H2
 refine zjn (α := { y : Unit // e_ = .inl y }) (fun | ⟨_, _⟩ => ⟨noFr, noHp, 0⟩) ?_ ?_
 ·refine zbk ?_
  refine zlp (α := { q : Nat × (List GFile × ByteArray × Int) // law19_GainValid_L1 n t1 q.1 q.2 = some e_ }) (fun | ⟨⟨c, ⟨t5, t6, t7⟩⟩, _⟩ => ⟨upd 1 (.d (.sl (List.map eI t1)) true) (upd 5 (.d (.sl (List.map eGFile t5)) false) (upd 6 (.v (.string t6)) (upd 7 (.v (.int .i64 t7)) noFr))), noHp, 0⟩) (fun q => q.1.1) ⟨(n, (t17, { data := #[] }, 0)), E3⟩ ?_ ?_
  ·exact ZR []
  ·rintro ⟨⟨c, ⟨t5, t6, t7⟩⟩, L5⟩
   rcases c with _ | c
   ·exact Zx L5
   ·unfold law19_GainValid_L1 at L5
    try dsimp only at L5
    refine zsq (zsq ?_)
    obtain ⟨e_4, E92, H93⟩ := zbi L5
    refine zjn (α := { y : Bool // e_4 = y }) (fun | ⟨t252, _⟩ => ⟨upd 1 (.d (.sl (List.map eI t1)) true) (upd 5 (.d (.sl (List.map eGFile t5)) false) (upd 6 (.v (.string t6)) (upd 7 (.v (.int .i64 t7)) (upd 25 (.v (.bool t252)) noFr)))), noHp, 0⟩) ?_ ?_
    ·refine ZT 1 ?_
     refine Z0 ?_
     rcases zit E92 with ⟨c94, H95⟩ | ⟨c94, H95⟩
     ·refine Z1 c94 ?_
      obtain rfl := Zi H95
      exact ⟨⟨(decide (t7 < 8)), rfl⟩, ZR []⟩
     ·refine Z1 c94 ?_
      obtain rfl := Zi H95
      exact ⟨⟨false, rfl⟩, ZR []⟩
    ·rintro ⟨t252, he178⟩
     obtain rfl := he178.symm
     try dsimp only at H93
     refine ZT 1 ?_
     refine Z0 ?_
     rcases zit H93 with ⟨c96, H97⟩ | ⟨c96, H97⟩
     ·refine Z1 c96 ?_
      refine zsq (zbk ?_)
      refine zsq (ZT 1 ?_)
      obtain ⟨s4, b98, H99⟩ := zbi H97
      obtain ⟨h100, h101⟩ := zct b98
      have h102 : t6.size + 2 ≤ maxLen := h100
      obtain ⟨s5, b103, H104⟩ := zbi H99
      obtain ⟨h105, h106⟩ := zct b103
      have h107 : s4.size + 1 ≤ maxLen := h105
      try simp -implicitDefEqProofs only [go_sem, Nat.reduceLT, Nat.reduceEqDiff, Nat.reduceAdd, Nat.reduceLeDiff, ↓reduceIte, h101, h102, List.drop_zero, List.take_succ_cons, List.take_zero, Option.map_some, bytesD, h106, h107]
      refine zsq (ZT 1 ?_)
      obtain ⟨x4, b108, H109⟩ := zbi H104
      obtain ⟨h110, h111⟩ := zix b108
      try simp only [Int.reduceToNat, Int.toNat_natCast] at h111
      have h112 := map_at eI h111
      obtain ⟨x5, b114, H115⟩ := zbi H109
      obtain ⟨h116, h117⟩ := zix b114
      try simp only [Int.reduceToNat, Int.toNat_natCast] at h117
      have h118 := map_at eS h117
      simp only [List.map_cons, List.map_nil, eS] at h118
      have h119 := at_lt h117
      simp only [List.length_cons, List.length_nil, Nat.reduceAdd] at h119
      obtain ⟨x6, b120, H121⟩ := zbi H115
      obtain ⟨h122, h123⟩ := zix b120
      try simp only [Int.reduceToNat, Int.toNat_natCast] at h123
      have h124 := map_at eS h123
      simp only [List.map_cons, List.map_nil, eS] at h124
      have h125 := at_lt h123
      simp only [List.length_cons, List.length_nil, Nat.reduceAdd] at h125
      obtain ⟨t632, b126, H127⟩ := zbi H121
      try simp -implicitDefEqProofs only [go_sem, Int.reduceToNat, Int.reduceLT, Nat.reduceLT, Int.reduceEq, Nat.reduceEqDiff, Nat.reduceAdd, Nat.reduceLeDiff, ↓reduceIte, List.drop_zero, List.take_succ_cons, List.take_zero, Option.map_some, zno .i64 h110, h112, zno .i64 h116, h118, h119, zno .i64 h122, h124, h125]
      refine ZD0 (gain_New_ok b126) ?_
      try simp -implicitDefEqProofs only [go_sem, Bool.false_and, Nat.reduceEqDiff, Nat.reduceAdd, ↓reduceIte, eGFile, List.drop_zero, List.take_zero, Option.map_some]
      refine Rd_endF (by kernel_rfl) ?_
      try simp -implicitDefEqProofs only [go_sem]
      refine zsq (ZT 1 ?_)
      obtain ⟨l5, b128, H129⟩ := zbi H127
      obtain ⟨h130, h131⟩ := app_inv b128
      have h131 : t5 = l5 := h131
      subst h131
      have h130 : t5.length ≤ 4294967296 := by have := h130; simpa using this
      obtain ⟨l6, b134, H135⟩ := zbi H129
      obtain ⟨h136, h137⟩ := app_inv b134
      have h136 : t5.length + 1 ≤ 4294967296 := h136
      have h138 : List.map eGFile t5 ++ [[.v (.int .i64 t632.1.kind), .v (.string t632.1.name), .sl (List.map eS t632.1.users), .v (.string t632.1.owner), .v (.string t632.1.group), .sl (List.map eGEntry t632.1.acl), .v (.int .i64 t632.1.at_)]] = List.map eGFile l6 := app_map eGFile h137
      have h139 : t5.length + 1 = l6.length := app_len h137
      have h140 : l6.length ≤ 4294967296 := by omega
      have q141 : 0 < l6.length := by omega
      obtain ⟨s6, b142, H143⟩ := zbi H135
      obtain ⟨h144, h145⟩ := zct b142
      have h146 : s5.size + 2 ≤ maxLen := h144
      obtain ⟨t812, b147, H148⟩ := zbi H143
      try simp -implicitDefEqProofs only [go_sem, Bool.false_and, Int.reduceToNat, Int.reduceLT, Nat.reduceLT, Nat.reduceEqDiff, Nat.reduceAdd, Nat.reduceMul, Nat.reduceLeDiff, ↓reduceIte, List.drop_zero, List.take_succ_cons, List.take_zero, Option.map_some, zno .i64 h110, h112, chk_map (n := 7) (f := eGFile) (fun _ => rfl) t5, h130, List.take_succ_cons, List.take_zero, h138, h139, h140, h145, h146]
      refine onCallD_pure (by first | rfl | (simp -implicitDefEqProofs only [go_sem, ↓reduceIte, List.drop_zero]; done) | (simp -implicitDefEqProofs only [go_sem, ↓reduceIte, List.drop_zero]; rfl)) (gain_New_ok b147) (by first | exact .inr rfl | exact .inl rfl) ?_
      try simp -implicitDefEqProofs only [go_sem, Bool.false_and, Nat.reduceEqDiff, Nat.reduceAdd, ↓reduceIte, eGFile, List.drop_zero, List.take_zero, Option.map_some, List.take_zero]
      refine Rd_endF (by rfl) ?_
      try simp -implicitDefEqProofs only [go_sem]
      refine zsq (zsq ?_)
      obtain ⟨e_5, E149, H150⟩ := zbi H148
      refine zjn (α := { y : Bool // e_5 = y }) (fun | ⟨t892, _⟩ => ⟨upd 1 (.d (.sl (List.map eI t1)) true) (upd 5 (.d (.sl (List.map eGFile t5)) false) (upd 6 (.v (.string s5)) (upd 7 (.v (.int .i64 t7)) (upd 8 (.pt 0 0) (upd 10 (.pt 1 0) (upd 89 (.v (.bool t892)) noFr)))))), upd 0 (some (.bx [.v (.int .i64 t632.1.kind), .v (.string t632.1.name), .d (.sl (List.map eS t632.1.users)) false, .v (.string t632.1.owner), .v (.string t632.1.group), .d (.sl (List.map eGEntry t632.1.acl)) false, .v (.int .i64 t632.1.at_)])) (upd 1 (some (.bx [.v (.int .i64 t812.1.kind), .v (.string t812.1.name), .d (.sl (List.map eS t812.1.users)) false, .v (.string t812.1.owner), .v (.string t812.1.group), .d (.sl (List.map eGEntry t812.1.acl)) false, .v (.int .i64 t812.1.at_)])) noHp), 2⟩) ?_ ?_
      ·refine ZT 1 ?_
       refine Z0 ?_
       rcases zit E149 with ⟨c151, H152⟩ | ⟨c151, H152⟩
       ·refine Z1 c151 ?_
        obtain rfl := Zi H152
        exact ⟨⟨true, rfl⟩, ZR [(0, 39), (1, 60)]⟩
       ·refine Z1 c151 ?_
        obtain rfl := Zi H152
        exact ⟨⟨(t812.2 != 0), rfl⟩, ZR [(0, 39), (1, 60)]⟩
      ·rintro ⟨t892, he177⟩
       obtain rfl := he177.symm
       try dsimp only at H150
       refine ZT 4 ?_
       refine Z0 ?_
       rcases zit H150 with ⟨c153, H154⟩ | ⟨c153, H154⟩
       ·refine Z1 c153 ?_
        obtain rfl := Zi H154
        obtain rfl := Zi H4
        exact ZE0
       ·obtain ⟨l7, b155, H156⟩ := zbi H154
        obtain ⟨h157, h158⟩ := app_inv b155
        have h158 : t5 = l7 := h158
        subst h158
        have h157 : t5.length ≤ 4294967296 := by have := h157; simpa using this
        obtain ⟨l8, b161, H162⟩ := zbi H156
        obtain ⟨h163, h164⟩ := app_inv b161
        have h163 : t5.length + 2 ≤ 4294967296 := h163
        have h165 : List.map eGFile t5 ++ [[.v (.int .i64 t632.1.kind), .v (.string t632.1.name), .sl (List.map eS t632.1.users), .v (.string t632.1.owner), .v (.string t632.1.group), .sl (List.map eGEntry t632.1.acl), .v (.int .i64 t632.1.at_)], [.v (.int .i64 t812.1.kind), .v (.string t812.1.name), .sl (List.map eS t812.1.users), .v (.string t812.1.owner), .v (.string t812.1.group), .sl (List.map eGEntry t812.1.acl), .v (.int .i64 t812.1.at_)]] = List.map eGFile l8 := app_map eGFile h164
        have h166 : t5.length + 2 = l8.length := app_len h164
        have h167 : l8.length ≤ 4294967296 := by omega
        have q168 : 0 < l8.length := by omega
        refine Z1 (Y2 (Y6 c153 (chk_map (n := 7) (f := eGFile) (fun _ => rfl) t5) h157 h163 h165 h166) h167) ?_
        refine Rd_endF (by rfl) ?_
        obtain ⟨t992, b169, H170⟩ := zbi H162
        refine Z1 (Y2 (Y6 c153 (chk_map (n := 7) (f := eGFile) (fun _ => rfl) t5) h157 h163 h165 h166) h167) ?_
        refine ZC1 (Y2 (Y6 c153 (chk_map (n := 7) (f := eGFile) (fun _ => rfl) t5) h157 h163 h165 h166) h167) (ref17_Valid_ok b169) ?_
        refine Z1 (Y2 (Y6 c153 (chk_map (n := 7) (f := eGFile) (fun _ => rfl) t5) h157 h163 h165 h166) h167) ?_
        rcases zit H170 with ⟨c171, H172⟩ | ⟨c171, H172⟩
        ·refine Z1 (Y2 (Y6 c153 (chk_map (n := 7) (f := eGFile) (fun _ => rfl) t5) h157 h163 h165 h166) (Y2 h167 c171)) ?_
         obtain rfl := Zi H172
         obtain rfl := Zi H4
         exact ZE0
        ·obtain ⟨t1072, b173, H174⟩ := zbi H172
         refine Z1 (Y2 (Y6 c153 (chk_map (n := 7) (f := eGFile) (fun _ => rfl) t5) h157 h163 h165 h166) (Y2 h167 c171)) ?_
         refine ZC1 (Y2 (Y6 c153 (chk_map (n := 7) (f := eGFile) (fun _ => rfl) t5) h157 h163 h165 h166) (Y2 h167 c171)) (gain_New_ok b173) ?_
         refine Z1 (Y2 (Y6 c153 (chk_map (n := 7) (f := eGFile) (fun _ => rfl) t5) h157 h163 h165 h166) (Y2 h167 c171)) ?_
         rcases zit H174 with ⟨c175, H176⟩ | ⟨c175, H176⟩
         ·refine Z1 (Y2 (Y6 c153 (chk_map (n := 7) (f := eGFile) (fun _ => rfl) t5) h157 h163 h165 h166) (Y3 h167 c171 c175)) ?_
          obtain rfl := Zi H176
          obtain rfl := Zi H4
          exact ZE0
         ·refine Z1 (Y2 (Y6 c153 (chk_map (n := 7) (f := eGFile) (fun _ => rfl) t5) h157 h163 h165 h166) (Y3 h167 c171 c175)) ?_
          exact ⟨⟨(c, (l8, s5, (IntKind.i64.wrap (t7 + 1)))), H176⟩, WeakR.trans (m := ⟨upd 1 (.d (.sl (List.map eI t1)) true) (upd 5 (.d (.sl (List.map eGFile l8)) false) (upd 6 (.v (.string s5)) (upd 7 (.v (.int .i64 (IntKind.i64.wrap (t7 + 1)))) (noFr)))), upd 0 (some (.bx [.v (.int .i64 t632.1.kind), .v (.string t632.1.name), .d (.sl (List.map eS t632.1.users)) false, .v (.string t632.1.owner), .v (.string t632.1.group), .d (.sl (List.map eGEntry t632.1.acl)) false, .v (.int .i64 t632.1.at_)])) (upd 1 (some (.bx [.v (.int .i64 t812.1.kind), .v (.string t812.1.name), .d (.sl (List.map eS t812.1.users)) false, .v (.string t812.1.owner), .v (.string t812.1.group), .d (.sl (List.map eGEntry t812.1.acl)) false, .v (.int .i64 t812.1.at_)])) (upd 25 (some (.bx [.v (.int .i64 t1072.1.kind), .v (.string t1072.1.name), .d (.sl (List.map eS t1072.1.users)) false, .v (.string t1072.1.owner), .v (.string t1072.1.group), .d (.sl (List.map eGEntry t1072.1.acl)) false, .v (.int .i64 t1072.1.at_)])) (upd 7 (some (.rw [[.v (.int .i64 t632.1.kind), .v (.string t632.1.name), .sl (List.map eS t632.1.users), .v (.string t632.1.owner), .v (.string t632.1.group), .sl (List.map eGEntry t632.1.acl), .v (.int .i64 t632.1.at_)], [.v (.int .i64 t812.1.kind), .v (.string t812.1.name), .sl (List.map eS t812.1.users), .v (.string t812.1.owner), .v (.string t812.1.group), .sl (List.map eGEntry t812.1.acl), .v (.int .i64 t812.1.at_)]] 7 0 false false)) (noHp)))), 33⟩) (ZR []) (dat_mk (Nat.le_refl _) (df_upd (dv_same (by rfl)) (df_upd (dv_c (by rfl) (dc_so (by rfl) (by first | rfl | simp) (by rfl) (fun h => h))) (df_upd (dv_same (by rfl)) (df_upd (dv_same (by rfl)) (df_no _))))) (dh_upd (dh_eq (by rfl)) (dh_upd (dh_eq (by rfl)) (dh_upd (dh_eq (by rfl)) (dh_upd (dh_eq (by rfl)) dh_no))))), Nat.lt_succ_self _⟩
     ·refine Z1 c96 ?_
      obtain rfl := Zi H97
      exact ⟨⟨(), rfl⟩, ZR []⟩
 ·rintro ⟨_, he181⟩
  obtain rfl := he181.symm
  try dsimp only at H4
  refine ZT 1 ?_
  obtain ⟨t112, b179, H180⟩ := zbi H4
  refine Z0 ?_
  refine ZC0 (law19_awake_ok b179) ?_
  refine Z0 ?_
  obtain rfl := Zi H180
  exact ZE0
end Go.Proofs.YtgmhbmcdlkajdaaGreatDoor.Ab
