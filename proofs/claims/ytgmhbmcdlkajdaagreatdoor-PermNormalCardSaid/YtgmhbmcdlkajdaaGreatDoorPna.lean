/-
 Functions, read off the code.
-/
import Derived.Test.YtgmhbmcdlkajdaaGreatDoorPts
import Derived.Test.YtgmhbmcdlkajdaaGreatDoorPtf
namespace Go.Proofs.YtgmhbmcdlkajdaaGreatDoor.Ab
open Go.RowKit
def ref17_before (n : Nat) (a : GFile) (b : GFile) : Option Bool :=
 (if ((if 3 < a.kind then 3 else a.kind) != (if 3 < b.kind then 3 else b.kind)) then
  some (decide ((if 3 < a.kind then 3 else a.kind) < (if 3 < b.kind then 3 else b.kind)))
 else
  some (Op.bytesLess a.name.toList b.name.toList))
theorem ref17_before_ok {n : Nat} {a : GFile} {b : GFile} {r : Bool} (H : ref17_before n a b = some r) : PureOK Tryz.prog 41 [D.ag (eGFile a), D.ag (eGFile b)] (D.v (.bool r)) true := by
 unfold ref17_before at H
 refine ZP tab_ok fol (rs := #[.tmp 4]) Tryz.func41 ?_
 refine ZT 1 ?_
 refine Z0 ?_
 refine Rd_endF (by rfl) ?_
 refine Z0 ?_
 rcases zit H with ⟨c1, H2⟩ | ⟨c1, H2⟩
 ·refine Z1 c1 ?_
  obtain rfl := Zi H2
  exact ZE0
 ·refine Z1 c1 ?_
  obtain rfl := Zi H2
  exact ZE0
def ref17_Normal_L2 (n : Nat) (t3 : List GFile) (x2 : GFile) (t212 : List ByteArray) (t262 : List GEntry × Bool) : Nat → Int → Option (Int)
 | 0, _ => none
 | c + 1, t6 =>
  (if (decide (0 < t6)) then
   (idx t3 (IntKind.i64.wrap (t6 - 1))).bind fun x4 =>
   (ref17_before n (⟨x2.kind, x2.name, t212, x2.owner, x2.group, t262.1, 0⟩ : GFile) x4).bind fun t412 =>
   (if t412 then
    ref17_Normal_L2 n t3 x2 t212 t262 c (IntKind.i64.wrap (t6 - 1))
   else
    some t6)
  else
   some t6)

def ref17_Normal_L1 (n : Nat) (t0 : List GFile) : Nat → (List GFile × Int) → Option (List GFile)
 | 0, _ => none
 | c + 1, (t3, t4) =>
  (if (decide (t4 < (t0.length : Int))) then
   (idx t0 t4).bind fun x2 =>
   (ref1_Texts n x2.users).bind fun t212 =>
   (ref17_Acl n x2.acl).bind fun t262 =>
   (
    ref17_Normal_L2 n t3 x2 t212 t262 n (t3.length : Int) : Option (Int)).bind fun t63 =>
   (
    (if (decide (0 < t63)) then
     (idx t3 (IntKind.i64.wrap (t63 - 1))).bind fun x5 =>
     (ref17_before n x5 (⟨x2.kind, x2.name, t212, x2.owner, x2.group, t262.1, 0⟩ : GFile)).bind fun t54 =>
     some (!t54)
    else
     some false) : Option (Bool)).bind fun t56 =>
   (if t56 then
    ref17_Normal_L1 n t0 c (t3, (IntKind.i64.wrap (t4 + 1)))
   else
    (if (decide (t3.length = 0)) then
     (slc ([] : List GFile) 0 t63).bind fun l3 =>
     (slc ([] : List GFile) t63 0).bind fun l4 =>
     ref17_Normal_L1 n t0 c ([(⟨x2.kind, x2.name, t212, x2.owner, x2.group, t262.1, 0⟩ : GFile)], (IntKind.i64.wrap (t4 + 1)))
    else
     (slc t3 0 t63).bind fun l5 =>
     (app [] l5).bind fun l6 =>
     (app l5 [(⟨x2.kind, x2.name, t212, x2.owner, x2.group, t262.1, 0⟩ : GFile)]).bind fun l7 =>
     (slc t3 t63 (t3.length : Int)).bind fun l8 =>
     (if (decide (Int.toNat t63 < t3.length)) then
      (app l7 l8).bind fun l9 =>
      ref17_Normal_L1 n t0 c (l9, (IntKind.i64.wrap (t4 + 1)))
     else
      ref17_Normal_L1 n t0 c (l7, (IntKind.i64.wrap (t4 + 1))))))
  else
   some t3)
def ref17_Normal (n : Nat) (t0 : List GFile) : Option (List GFile) :=
 (
  ref17_Normal_L1 n t0 n ([], 0) : Option (List GFile)).bind fun t33 =>
 some t33
set_option maxHeartbeats 8000000 in
theorem ref17_Normal_ok {n : Nat} {t0 : List GFile} {r : List GFile} (H : ref17_Normal n t0 = some r) : PureOK Tryz.prog 17 [D.sl (List.map eGFile t0)] (D.sl (List.map eGFile r)) true := by
 unfold ref17_Normal at H
 refine ZP tab_ok fol (rs := #[.tmp 2]) Tryz.func17 ?_
 refine zsq ?_
 refine ZT 1 ?_
 refine Z0 ?_
 refine zsq ?_
 refine ZT 1 ?_
 refine Z0 ?_
 refine zsq ?_
 refine zsq ?_
 refine ZT 1 ?_
 refine Z0 ?_
 obtain ⟨e_, E1, H2⟩ := zbi H
 refine zjn (α := { y : List GFile // e_ = y } × Nat) (fun | ⟨⟨t33, _⟩, g8⟩ => ⟨upd 3 (accV 0 g8 (List.map eGFile t33)) noFr, upd 0 (accO 7 g8 false (List.map eGFile t33)) noHp, 1⟩) ?_ ?_
 ·refine zbk ?_
  refine zlp (α := { q : (Nat × (List GFile × Int)) × Nat // ref17_Normal_L1 n t0 q.1.1 q.1.2 = some e_ }) (fun | ⟨⟨⟨c, ⟨t3, t4⟩⟩, g⟩, _⟩ => ⟨upd 0 (.d (.sl (List.map eGFile t0)) true) (upd 3 (accV 0 g (List.map eGFile t3)) (upd 4 (.v (.int .i64 t4)) noFr)), upd 0 (accO 7 g false (List.map eGFile t3)) noHp, 1⟩) (fun q => q.1.1.1) ⟨((n, ([], 0)), 0), E1⟩ ?_ ?_
  ·exact ZR []
  ·rintro ⟨⟨⟨c, ⟨t3, t4⟩⟩, g⟩, L3⟩
   rcases c with _ | c
   ·exact nomatch (show none = some _ from L3)
   ·unfold ref17_Normal_L1 at L3
    try dsimp only at L3
    refine zsq ?_
    refine ZT 1 ?_
    refine Z0 ?_
    rcases zit L3 with ⟨c39, H40⟩ | ⟨c39, H40⟩
    ·refine Z1 c39 ?_
     refine zsq ?_
     refine zbk ?_
     refine zsq ?_
     refine ZT 1 ?_
     obtain ⟨x2, b41, H42⟩ := zbi H40
     obtain ⟨h43, h44⟩ := zix b41
     try simp only [Int.reduceToNat, Int.toNat_natCast] at h44
     have h45 := map_at eGFile h44
     refine Z1 (Y3 c39 (zno .i64 h43) h45) ?_
     refine zsq ?_
     refine ZT 1 ?_
     refine Z1 (Y3 c39 (zno .i64 h43) h45) ?_
     refine zsq ?_
     refine ZT 1 ?_
     obtain ⟨t212, b47, H48⟩ := zbi H42
     refine Z1 (Y3 c39 (zno .i64 h43) h45) ?_
     refine ZC0 (ref1_Texts_ok b47) ?_
     refine Z1 (Y3 c39 (zno .i64 h43) h45) ?_
     refine zsq ?_
     refine ZT 1 ?_
     obtain ⟨t262, b49, H50⟩ := zbi H48
     refine Z1 (Y3 c39 (zno .i64 h43) h45) ?_
     refine ZC0 (ref17_Acl_ok b49) ?_
     refine Z1 (Y3 c39 (zno .i64 h43) h45) ?_
     refine zsq ?_
     refine ZT 1 ?_
     refine Z1 (Y3 c39 (zno .i64 h43) h45) ?_
     refine zsq ?_
     obtain ⟨e_4, E51, H52⟩ := zbi H50
     refine zjn (α := { y : Int // e_4 = y } × Nat) (fun | ⟨⟨t63, _⟩, g5⟩ => ⟨upd 0 (.d (.sl (List.map eGFile t0)) true) (upd 3 (accV 0 g5 (List.map eGFile t3)) (upd 4 (.v (.int .i64 t4)) (upd 5 (.pt 1 0) (upd 6 (.v (.int .i64 t63)) noFr)))), upd 0 (accO 7 g5 false (List.map eGFile t3)) (upd 1 (some (.bx [.v (.int .i64 x2.kind), .v (.string x2.name), .d (.sl (List.map eS t212)) false, .v (.string x2.owner), .v (.string x2.group), .d (.sl (List.map eGEntry t262.1)) false, .v (.int .i64 0)])) noHp), 2⟩) ?_ ?_
     ·refine zbk ?_
      refine zlp (α := { q : (Nat × Int) × Nat // ref17_Normal_L2 n t3 x2 t212 t262 q.1.1 q.1.2 = some e_4 }) (fun | ⟨⟨⟨c, t6⟩, g3⟩, _⟩ => ⟨upd 0 (.d (.sl (List.map eGFile t0)) true) (upd 3 (accV 0 g3 (List.map eGFile t3)) (upd 4 (.v (.int .i64 t4)) (upd 5 (.pt 1 0) (upd 6 (.v (.int .i64 t6)) noFr)))), upd 0 (accO 7 g3 false (List.map eGFile t3)) (upd 1 (some (.bx [.v (.int .i64 x2.kind), .v (.string x2.name), .d (.sl (List.map eS t212)) false, .v (.string x2.owner), .v (.string x2.group), .d (.sl (List.map eGEntry t262.1)) false, .v (.int .i64 0)])) noHp), 2⟩) (fun q => q.1.1.1) ⟨((n, (t3.length : Int)), g), E51⟩ ?_ ?_
      ·exact ZR [(0, 0), (1, 9)]
      ·rintro ⟨⟨⟨c, t6⟩, g3⟩, L53⟩
       rcases c with _ | c
       ·exact nomatch (show none = some _ from L53)
       ·unfold ref17_Normal_L2 at L53
        try dsimp only at L53
        refine ZT 1 ?_
        refine Z0 ?_
        rcases zit L53 with ⟨c67, H68⟩ | ⟨c67, H68⟩
        ·obtain ⟨x4, b69, H70⟩ := zbi H68
         obtain ⟨h71, h72⟩ := zix b69
         try simp only [Int.reduceToNat, Int.toNat_natCast] at h72
         have h73 := map_at eGFile h72
         have h74 := at_lt h72
         have q75 : 0 < t3.length := by omega
         obtain ⟨t412, b76, H77⟩ := zbi H70
         refine Z1 (Y6 c67 (zno .i64 h71) h73 h74 (YV (f := eGFile) q75) (YO (f := eGFile) q75)) ?_
         refine ZD0 (ref17_before_ok b76) ?_
         refine Z1 (Y6 c67 (zno .i64 h71) h73 h74 (YV (f := eGFile) q75) (YO (f := eGFile) q75)) ?_
         refine Rd_endF (by rfl) ?_
         refine Z1 (Y6 c67 (zno .i64 h71) h73 h74 (YV (f := eGFile) q75) (YO (f := eGFile) q75)) ?_
         rcases zit H77 with ⟨c78, H79⟩ | ⟨c78, H79⟩
         ·refine Z1 (Y2 (Y6 c67 (zno .i64 h71) h73 h74 (YV (f := eGFile) q75) (YO (f := eGFile) q75)) c78) ?_
          exact ⟨⟨((c, (IntKind.i64.wrap (t6 - 1))), g3), H79⟩, ZR [(0, 0), (1, 1)], Nat.lt_succ_self _⟩
         ·refine Z1 (Y2 (Y6 c67 (zno .i64 h71) h73 h74 (YV (f := eGFile) q75) (YO (f := eGFile) q75)) c78) ?_
          obtain rfl := Zi H79
          exact ⟨⟨⟨t6, rfl⟩, g3⟩, ZR [(0, 0), (1, 1)]⟩
        ·refine Z1 c67 ?_
         refine Rd_endF (by rfl) ?_
         refine Z1 c67 ?_
         obtain rfl := Zi H68
         exact ⟨⟨⟨t6, rfl⟩, g3⟩, ZR [(0, 0), (1, 1)]⟩
     ·rintro ⟨⟨t63, he167⟩, g5⟩
      replace he167 := he167.symm
      subst he167
      try dsimp only at H52
      refine zsq ?_
      refine zsq ?_
      obtain ⟨e_5, E80, H81⟩ := zbi H52
      refine zjn (α := { y : Bool // e_5 = y } × Nat) (fun | ⟨⟨t56, _⟩, g6⟩ => ⟨upd 0 (.d (.sl (List.map eGFile t0)) true) (upd 3 (accV 0 g6 (List.map eGFile t3)) (upd 4 (.v (.int .i64 t4)) (upd 5 (.pt 1 0) (upd 6 (.v (.int .i64 t63)) (upd 56 (.v (.bool t56)) noFr))))), upd 0 (accO 7 g6 false (List.map eGFile t3)) (upd 1 (some (.bx [.v (.int .i64 x2.kind), .v (.string x2.name), .d (.sl (List.map eS t212)) false, .v (.string x2.owner), .v (.string x2.group), .d (.sl (List.map eGEntry t262.1)) false, .v (.int .i64 0)])) noHp), 2⟩) ?_ ?_
      ·refine ZT 1 ?_
       refine Z0 ?_
       rcases zit E80 with ⟨c82, H83⟩ | ⟨c82, H83⟩
       ·obtain ⟨x5, b84, H85⟩ := zbi H83
        obtain ⟨h86, h87⟩ := zix b84
        try simp only [Int.reduceToNat, Int.toNat_natCast] at h87
        have h88 := map_at eGFile h87
        have h89 := at_lt h87
        have q90 : 0 < t3.length := by omega
        obtain ⟨t54, b91, H92⟩ := zbi H85
        refine Z1 (Y6 c82 (zno .i64 h86) h88 h89 (YV (f := eGFile) q90) (YO (f := eGFile) q90)) ?_
        refine ZD0 (ref17_before_ok b91) ?_
        refine Z1 (Y6 c82 (zno .i64 h86) h88 h89 (YV (f := eGFile) q90) (YO (f := eGFile) q90)) ?_
        refine Rd_endF (by rfl) ?_
        refine Z1 (Y6 c82 (zno .i64 h86) h88 h89 (YV (f := eGFile) q90) (YO (f := eGFile) q90)) ?_
        obtain rfl := Zi H92
        exact ⟨⟨⟨(!t54), rfl⟩, g5⟩, ZR [(0, 0), (1, 1)]⟩
       ·refine Z1 c82 ?_
        refine Rd_endF (by rfl) ?_
        refine Z1 c82 ?_
        obtain rfl := Zi H83
        exact ⟨⟨⟨false, rfl⟩, g5⟩, ZR [(0, 0), (1, 1)]⟩
      ·rintro ⟨⟨t56, he166⟩, g6⟩
       replace he166 := he166.symm
       subst he166
       try dsimp only at H81
       refine ZT 4 ?_
       refine Z0 ?_
       rcases zit H81 with ⟨c93, H94⟩ | ⟨c93, H94⟩
       ·refine Z1 c93 ?_
        exact ⟨⟨((c, (t3, (IntKind.i64.wrap (t4 + 1)))), g6), H94⟩, ZR [(0, 0)], Nat.lt_succ_self _⟩
       ·refine Z1 c93 ?_
        rcases zit H94 with ⟨c95, H96⟩ | ⟨c95, H96⟩
        ·have e97 : t3 = [] := List.eq_nil_of_length_eq_zero (of_decide_eq_true c95)
         subst e97
         simp only [List.map_nil, accV_nil, accO_nil]
         try simp only [accK, accB]
         obtain ⟨l3, b98, H99⟩ := zbi H96
         obtain ⟨h100, h101, h102, h103⟩ := slc_inv b98
         simp only [List.length_nil, Int.natCast_zero] at h102
         have h104 : 0 ≤ Int.toNat t63 := by first | omega | (simp only [List.length_nil, Int.natCast_zero] at *; omega)
         have h105 : Int.toNat t63 ≤ 0 := by first | omega | (simp only [List.length_nil, Int.natCast_zero] at *; omega)
         obtain ⟨l4, b106, H107⟩ := zbi H99
         obtain ⟨h108, h109, h110, h111⟩ := slc_inv b106
         simp only [List.length_nil, Int.natCast_zero] at h110
         have h112 : Int.toNat t63 ≤ 0 := by first | omega | (simp only [List.length_nil, Int.natCast_zero] at *; omega)
         have h113 : 0 ≤ 0 := by first | omega | (simp only [List.length_nil, Int.natCast_zero] at *; omega)
         refine Z1 (Y2 (Y6 c93 (zno .i64 (Int.le_trans h100 h101)) h104 h105 (zno .i64 h108) h112) h113) ?_
         refine Rd_endF (by rfl) ?_
         refine Z1 (Y2 (Y6 c93 (zno .i64 (Int.le_trans h100 h101)) h104 h105 (zno .i64 h108) h112) h113) ?_
         exact ⟨⟨((c, ([(⟨x2.kind, x2.name, t212, x2.owner, x2.group, t262.1, 0⟩ : GFile)], (IntKind.i64.wrap (t4 + 1)))), 3), H107⟩, ZR [(0, 2)], Nat.lt_succ_self _⟩
        ·have q114 : 0 < t3.length := by have := of_decide_eq_false c95; omega
         have h115 : ∀ i, accK i (List.map eGFile t3) = [i] := fun i => by cases hx : t3 with | nil => (rw [hx] at q114; simp at q114) | cons a r => rfl
         have h116 : ∀ b, accB b (List.map eGFile t3) = b := fun b => by cases hx : t3 with | nil => (rw [hx] at q114; simp at q114) | cons a r => rfl
         obtain ⟨l5, b117, H118⟩ := zbi H96
         obtain ⟨h119, h120, h121, h122⟩ := slc_inv b117
         have h123 : 0 ≤ Int.toNat t63 := by omega
         have h124 : Int.toNat t63 ≤ t3.length := by omega
         have h126 : Int.toNat t63 - 0 = l5.length := by rw [h122]; simp; try omega
         have h125 : List.take l5.length (List.map eGFile t3) = List.map eGFile l5 := part_ini eGFile h122
         try simp only [Int.toNat_natCast] at h123 h124 h125 h126
         obtain ⟨l6, b127, H128⟩ := zbi H118
         obtain ⟨h129, h130⟩ := app_inv b127
         have h130 : l5 = l6 := h130
         subst h130
         have h129 : l5.length ≤ 4294967296 := by have := h129; simpa using this
         obtain ⟨l7, b133, H134⟩ := zbi H128
         obtain ⟨h135, h136⟩ := app_inv b133
         have h135 : l5.length + 1 ≤ 4294967296 := h135
         have h137 : List.map eGFile l5 ++ [[.v (.int .i64 x2.kind), .v (.string x2.name), .sl (List.map eS t212), .v (.string x2.owner), .v (.string x2.group), .sl (List.map eGEntry t262.1), .v (.int .i64 0)]] = List.map eGFile l7 := app_map eGFile h136
         have h138 : l5.length + 1 = l7.length := app_len h136
         have h139 : l7.length ≤ 4294967296 := by omega
         have q140 : 0 < l7.length := by omega
         obtain ⟨l8, b141, H142⟩ := zbi H134
         obtain ⟨h143, h144, h145, h146⟩ := slc_inv b141
         have h147 : Int.toNat t63 ≤ t3.length := by omega
         have h148 : t3.length ≤ t3.length := by omega
         simp only [Int.toNat_natCast, List.take_length] at h146
         have h150 : t3.length - Int.toNat t63 = l8.length := by rw [h146]; simp; try omega
         have h149 : List.take l8.length (List.drop (Int.toNat t63) (List.map eGFile t3)) = List.map eGFile l8 := part_all eGFile h146
         try simp only [Int.toNat_natCast] at h147 h148 h149 h150
         refine Z1 (Y4 (Y6 c93 c95 h115 h116 q114 (YV (f := eGFile) q114)) (Y6 (YO (f := eGFile) q114) (zno .i64 (Int.le_trans h119 h120)) h123 h124 h126 h125) (Y6 (chk_map (n := 7) (f := eGFile) (fun _ => rfl) l5) h129 h135 h137 h138 h139) (Y5 (zno .i64 h143) h147 h148 h150 h149)) ?_
         rcases zit H142 with ⟨c151, H152⟩ | ⟨c151, H152⟩
         ·have h153 : Int.toNat t63 < t3.length := of_decide_eq_true c151
          obtain ⟨l9, b154, H155⟩ := zbi H152
          obtain ⟨h156, h157⟩ := app_inv b154
          have h156 : l7.length + l8.length ≤ 4294967296 := h156
          have h158 : List.map eGFile l7 ++ List.map eGFile l8 = List.map eGFile l9 := app_map eGFile h157
          have h159 : l7.length + l8.length = l9.length := app_len h157
          have h160 : l9.length ≤ 4294967296 := by omega
          have q161 : 0 < l9.length := by omega
          refine Z1 (Y5 (Y6 c93 c95 h115 h116 q114 (YV (f := eGFile) q114)) (Y6 (YO (f := eGFile) q114) (zno .i64 (Int.le_trans h119 h120)) h123 h124 h126 h125) (Y6 (chk_map (n := 7) (f := eGFile) (fun _ => rfl) l5) h129 h135 h137 h138 h139) (Y6 (zno .i64 h143) h147 h148 h150 h149 h153) (Y5 (chk_map (n := 7) (f := eGFile) (fun _ => rfl) l8) h156 h158 h159 h160)) ?_
          refine Rd_endF (by rfl) ?_
          refine Z1 (Y5 (Y6 c93 c95 h115 h116 q114 (YV (f := eGFile) q114)) (Y6 (YO (f := eGFile) q114) (zno .i64 (Int.le_trans h119 h120)) h123 h124 h126 h125) (Y6 (chk_map (n := 7) (f := eGFile) (fun _ => rfl) l5) h129 h135 h137 h138 h139) (Y6 (zno .i64 h143) h147 h148 h150 h149 h153) (Y5 (chk_map (n := 7) (f := eGFile) (fun _ => rfl) l8) h156 h158 h159 h160)) ?_
          exact ⟨⟨((c, (l9, (IntKind.i64.wrap (t4 + 1)))), 3), H155⟩, ZR [(0, 2)], Nat.lt_succ_self _⟩
         ·have h162 : ¬ Int.toNat t63 < t3.length := of_decide_eq_false c151
          have h163 : l8 = [] := List.eq_nil_of_length_eq_zero (by omega)
          have h164 : ¬ Int.toNat t63 = 0 := by omega
          have h165 : l7.length ≤ 4294967296 := by omega
          try simp -implicitDefEqProofs only [go_sem, Bool.false_and, Int.reduceToNat, Int.reduceLT, Int.reduceLE, Int.reduceBEq, Int.reduceBNe, Nat.reduceLT, Nat.reduceBEq, Int.reduceEq, Nat.reduceEqDiff, Nat.reduceAdd, Nat.reduceSub, Nat.reduceMul, Nat.reduceLeDiff, reduceCtorEq, ↓reduceIte, eGFile, eGEntry, eGWord, eGLine, c93, c95, h115, h116, q114, accV_pos (f := eGFile) q114, accO_pos (f := eGFile) q114, zno .i64 (Int.le_trans h119 h120), h123, h124, h126, h125, chk_map (n := 7) (f := eGFile) (fun _ => rfl) l5, h129, List.take_succ_cons, List.take_zero, h135, h137, h138, h139, zno .i64 h143, h147, h148, h150, h149, h162, or_true, or_false, false_or, Nat.zero_add, h164, chk_map (n := 7) (f := eGFile) (fun _ => rfl) [], Nat.add_zero, List.append_nil, h165]
          refine Rd_endF (by rfl) ?_
          try simp -implicitDefEqProofs only [go_sem, Bool.false_and, Int.reduceToNat, Int.reduceLT, Int.reduceLE, Int.reduceBEq, Int.reduceBNe, Nat.reduceLT, Nat.reduceBEq, Int.reduceEq, Nat.reduceEqDiff, Nat.reduceAdd, Nat.reduceSub, Nat.reduceMul, Nat.reduceLeDiff, reduceCtorEq, ↓reduceIte, eGFile, eGEntry, eGWord, eGLine, c93, c95, h115, h116, q114, accV_pos (f := eGFile) q114, accO_pos (f := eGFile) q114, zno .i64 (Int.le_trans h119 h120), h123, h124, h126, h125, chk_map (n := 7) (f := eGFile) (fun _ => rfl) l5, h129, List.take_succ_cons, List.take_zero, h135, h137, h138, h139, zno .i64 h143, h147, h148, h150, h149, h162, or_true, or_false, false_or, Nat.zero_add, h164, chk_map (n := 7) (f := eGFile) (fun _ => rfl) [], Nat.add_zero, List.append_nil, h165]
          exact ⟨⟨((c, (l7, (IntKind.i64.wrap (t4 + 1)))), 3), H152⟩, ZR [(0, 2)], Nat.lt_succ_self _⟩
    ·refine Z1 c39 ?_
     obtain rfl := Zi H40
     exact ⟨⟨⟨t3, rfl⟩, g⟩, ZR [(0, 0)]⟩
 ·rintro ⟨⟨t33, he168⟩, g8⟩
  replace he168 := he168.symm
  subst he168
  try dsimp only at H2
  refine ZT 1 ?_
  refine Z0 ?_
  obtain rfl := Zi H2
  exact ZE0
def law20_PermNormal_L1 (n : Nat) (t14 : List GFile) : Nat → (List GFile × Int) → Option (List GFile)
 | 0, _ => none
 | c + 1, (t6, t7) =>
  (if (decide (0 ≤ t7)) then
   (idx t14 t7).bind fun x2 =>
   (app t6 [x2, x2]).bind fun l =>
   law20_PermNormal_L1 n t14 c (l, (IntKind.i64.wrap (t7 - 1)))
  else
   some t6)

def law20_PermNormal (n : Nat) (t0 : List Int) (t1 : Int) : Option Bool :=
 (law18_Valid n t0).bind fun t14 =>
 (
  law20_PermNormal_L1 n t14 n ([], (IntKind.i64.wrap ((t14.length : Int) - 1))) : Option (List GFile)).bind fun t63 =>
 (ref17_Normal n t14).bind fun t34 =>
 (law20_Who n t1).bind fun t36 =>
 (law20_Where n (sh t1 8)).bind fun t39 =>
 (idx [1, 2, 4] (Int.tmod (IntKind.i64.wrap (an (sh t1 16) 255 : Int)) 3)).bind fun x3 =>
 (perm_May n t14 t36 t39 x3).bind fun t51 =>
 (perm_May n t34 t36 t39 x3).bind fun t56 =>
 (if (t56 == t51) then
  (perm_May n t63 t36 t39 x3).bind fun t64 =>
  (if (t64 == t51) then
   (law20_awake n).bind fun t69 =>
   some t69
  else
   some false)
 else
  some false)
theorem law20_PermNormal_ok {n : Nat} {t0 : List Int} {t1 : Int} {r : Bool} (H : law20_PermNormal n t0 t1 = some r) : PureOK Tryz.prog 5 [D.sl (List.map eI t0), D.v (.int .i64 t1)] (D.v (.bool r)) true := by
 unfold law20_PermNormal at H
 refine ZP tab_ok fol (rs := #[.tmp 4]) Tryz.func5 ?_
 refine zsq ?_
 refine ZT 1 ?_
 refine Z0 ?_
 refine zsq ?_
 refine ZT 1 ?_
 obtain ⟨t14, b1, H2⟩ := zbi H
 refine Z0 ?_
 refine ZC0 (law18_Valid_ok b1) ?_
 refine Z0 ?_
 refine zsq ?_
 refine ZT 1 ?_
 refine Z0 ?_
 refine zsq ?_
 refine zsq ?_
 refine ZT 1 ?_
 refine Z0 ?_
 obtain ⟨e_, E3, H4⟩ := zbi H2
 refine zjn (α := { y : List GFile // e_ = y } × Nat) (fun | ⟨⟨t63, _⟩, g3⟩ => ⟨upd 1 (.v (.int .i64 t1)) (upd 5 (.d (.sl (List.map eGFile t14)) false) (upd 6 (accV 0 g3 (List.map eGFile t63)) noFr)), upd 0 (accO 7 g3 false (List.map eGFile t63)) noHp, 1⟩) ?_ ?_
 ·refine zbk ?_
  refine zlp (α := { q : (Nat × (List GFile × Int)) × Nat // law20_PermNormal_L1 n t14 q.1.1 q.1.2 = some e_ }) (fun | ⟨⟨⟨c, ⟨t6, t7⟩⟩, g⟩, _⟩ => ⟨upd 1 (.v (.int .i64 t1)) (upd 5 (.d (.sl (List.map eGFile t14)) false) (upd 6 (accV 0 g (List.map eGFile t6)) (upd 7 (.v (.int .i64 t7)) noFr))), upd 0 (accO 7 g false (List.map eGFile t6)) noHp, 1⟩) (fun q => q.1.1.1) ⟨((n, ([], (IntKind.i64.wrap ((t14.length : Int) - 1)))), 0), E3⟩ ?_ ?_
  ·exact ZR []
  ·rintro ⟨⟨⟨c, ⟨t6, t7⟩⟩, g⟩, L5⟩
   rcases c with _ | c
   ·exact nomatch (show none = some _ from L5)
   ·unfold law20_PermNormal_L1 at L5
    try dsimp only at L5
    refine ZT 1 ?_
    refine Z0 ?_
    rcases zit L5 with ⟨c14, H15⟩ | ⟨c14, H15⟩
    ·obtain ⟨x2, b16, H17⟩ := zbi H15
     obtain ⟨h18, h19⟩ := zix b16
     try simp only [Int.reduceToNat, Int.toNat_natCast] at h19
     have h20 := map_at eGFile h19
     obtain ⟨l, b22, H23⟩ := zbi H17
     obtain ⟨h24, h25⟩ := app_inv b22
     have h24 : t6.length + 2 ≤ 4294967296 := h24
     have h26 : List.map eGFile t6 ++ [[.v (.int .i64 x2.kind), .v (.string x2.name), .sl (List.map eS x2.users), .v (.string x2.owner), .v (.string x2.group), .sl (List.map eGEntry x2.acl), .v (.int .i64 x2.at_)], [.v (.int .i64 x2.kind), .v (.string x2.name), .sl (List.map eS x2.users), .v (.string x2.owner), .v (.string x2.group), .sl (List.map eGEntry x2.acl), .v (.int .i64 x2.at_)]] = List.map eGFile l := app_map eGFile h25
     have h27 : t6.length + 2 = l.length := app_len h25
     have h28 : l.length ≤ 4294967296 := by omega
     have q29 : 0 < l.length := by omega
     refine Z1 (Y2 (Y6 c14 (zno .i64 h18) h20 h24 h26 h27) h28) ?_
     refine Rd_endF (by (cases t6 <;> rfl)) ?_
     refine Z1 (Y2 (Y6 c14 (zno .i64 h18) h20 h24 h26 h27) h28) ?_
     rcases t6 with _ | ⟨q0, q1⟩
     ·try simp only [List.map_nil, accI, accN]
      exact ⟨⟨((c, (l, (IntKind.i64.wrap (t7 - 1)))), 0), H23⟩, ZR [(0, 13)], Nat.lt_succ_self _⟩
     ·try simp only [List.map_cons, accI, accN]
      exact ⟨⟨((c, (l, (IntKind.i64.wrap (t7 - 1)))), (g + 1)), H23⟩, ZR [(0, 0)], Nat.lt_succ_self _⟩
    ·refine Z1 c14 ?_
     obtain rfl := Zi H15
     exact ⟨⟨⟨t6, rfl⟩, g⟩, ZR [(0, 0)]⟩
 ·rintro ⟨⟨t63, he54⟩, g3⟩
  replace he54 := he54.symm
  subst he54
  try dsimp only at H4
  refine ZT 1 ?_
  obtain ⟨t34, b30, H31⟩ := zbi H4
  refine Z0 ?_
  refine ZC0 (ref17_Normal_ok b30) ?_
  obtain ⟨t36, b32, H33⟩ := zbi H31
  refine Z0 ?_
  refine ZD0 (law20_Who_ok b32) ?_
  obtain ⟨t39, b34, H35⟩ := zbi H33
  refine Z0 ?_
  refine ZD0 (law20_Where_ok b34) ?_
  obtain ⟨x3, b36, H37⟩ := zbi H35
  obtain ⟨h38, h39⟩ := zix b36
  try simp only [Int.reduceToNat, Int.toNat_natCast] at h39
  have h40 := map_at eI h39
  simp only [List.map_cons, List.map_nil, eI] at h40
  have h41 := at_lt h39
  simp only [List.length_cons, List.length_nil, Nat.reduceAdd] at h41
  refine Z1 (Y3 (zno .i64 h38) h40 h41) ?_
  refine Rd_endF (by rfl) ?_
  obtain ⟨t51, b42, H43⟩ := zbi H37
  refine Z1 (Y3 (zno .i64 h38) h40 h41) ?_
  refine ZC0 (perm_May_ok b42) ?_
  obtain ⟨t56, b44, H45⟩ := zbi H43
  refine Z1 (Y3 (zno .i64 h38) h40 h41) ?_
  refine ZC0 (perm_May_ok b44) ?_
  refine Z1 (Y3 (zno .i64 h38) h40 h41) ?_
  rcases zit H45 with ⟨c46, H47⟩ | ⟨c46, H47⟩
  ·obtain ⟨t64, b48, H49⟩ := zbi H47
   refine Z1 (Y4 (zno .i64 h38) h40 h41 c46) ?_
   refine ZC1 (Y4 (zno .i64 h38) h40 h41 c46) (perm_May_ok b48) ?_
   refine Z1 (Y4 (zno .i64 h38) h40 h41 c46) ?_
   rcases zit H49 with ⟨c50, H51⟩ | ⟨c50, H51⟩
   ·obtain ⟨t69, b52, H53⟩ := zbi H51
    refine Z1 (Y5 (zno .i64 h38) h40 h41 c46 c50) ?_
    refine ZC0 (law20_awake_ok b52) ?_
    refine Z1 (Y5 (zno .i64 h38) h40 h41 c46 c50) ?_
    obtain rfl := Zi H53
    exact ZE0
   ·refine Z1 (Y5 (zno .i64 h38) h40 h41 c46 c50) ?_
    obtain rfl := Zi H51
    exact ZE0
  ·refine Z1 (Y4 (zno .i64 h38) h40 h41 c46) ?_
   obtain rfl := Zi H47
   exact ZE0
end Go.Proofs.YtgmhbmcdlkajdaaGreatDoor.Ab
