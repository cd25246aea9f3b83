/-
 Functions, read off the code.
-/
import Derived.Test.YtgmhbmcdlkajdaaGreatDoorPtd
namespace Go.Proofs.YtgmhbmcdlkajdaaGreatDoor.Ab
open Go.RowKit
def perm_in_c1 (n : Nat) (f : GFile) (c2 : ByteArray) (c3 : ByteArray) : Option Bool :=
 (if (f.kind == 2) then
  (if (f.name.toList == c2.toList) then
   (slices_Contains_string n f.users c3).bind fun t18 =>
   some t18
  else
   some false)
 else
  some false)
theorem perm_in_c1_ok {n : Nat} {f : GFile} {c2 : ByteArray} {c3 : ByteArray} {r : Bool} (H : perm_in_c1 n f c2 c3 = some r) : PureOK Tryz.prog 92 [D.ag (eGFile f), D.pt [D.v (.string c2)] 0, D.pt [D.v (.string c3)] 0] (D.v (.bool r)) true := by
 unfold perm_in_c1 at H
 refine ZP tab_ok fol (rs := #[.tmp 4]) Tryz.func92 ?_
 refine ZT 1 ?_
 refine Z0 ?_
 rcases zit H with ⟨c1, H2⟩ | ⟨c1, H2⟩
 ·refine Z1 c1 ?_
  rcases zit H2 with ⟨c3, H4⟩ | ⟨c3, H4⟩
  ·obtain ⟨t18, b5, H6⟩ := zbi H4
   refine Z1 (Y2 c1 c3) ?_
   refine ZC0 (slices_Contains_string_ok b5) ?_
   refine Z1 (Y2 c1 c3) ?_
   obtain rfl := Zi H6
   exact ZE0
  ·refine Z1 (Y2 c1 c3) ?_
   obtain rfl := Zi H4
   exact ZE0
 ·refine Z1 c1 ?_
  obtain rfl := Zi H2
  exact ZE0
def slices_IndexFunc_File__perm_in_c1_L1 (n : Nat) (s : List GFile) (c2 : ByteArray) (c3 : ByteArray) : Nat → Int → Option ((Unit) ⊕ Int)
 | 0, _ => none
 | c + 1, t8 =>
  (if (decide (t8 < (s.length : Int))) then
   (idx s t8).bind fun x2 =>
   (perm_in_c1 n x2 c2 c3).bind fun t162 =>
   (if t162 then
    some (.inr t8)
   else
    slices_IndexFunc_File__perm_in_c1_L1 n s c2 c3 c (IntKind.i64.wrap (t8 + 1)))
  else
   some (.inl ()))

def slices_IndexFunc_File__perm_in_c1 (n : Nat) (s : List GFile) (c2 : ByteArray) (c3 : ByteArray) : Option Int :=
 (
  slices_IndexFunc_File__perm_in_c1_L1 n s c2 c3 n 0 : Option ((Unit) ⊕ Int)).bind fun
  | .inl _ =>
   some (-1)
  | .inr r => some r
theorem slices_IndexFunc_File__perm_in_c1_ok {n : Nat} {s : List GFile} {c2 : ByteArray} {c3 : ByteArray} {r : Int} (H : slices_IndexFunc_File__perm_in_c1 n s c2 c3 = some r) : PureA Tryz.prog 85 [.d (D.sl (List.map eGFile s)), .fn 92 [D.pt [D.v (.string c2)] 0, D.pt [D.v (.string c3)] 0]] (D.v (.int .i64 r)) true := by
 unfold slices_IndexFunc_File__perm_in_c1 at H
 refine ZPA tab_ok fol (rs := #[.tmp 4]) Tryz.func85 ?_
 refine zsq (ZT 1 ?_)
 refine Z0 ?_
 refine zsq (zsq ?_)
 refine ZT 1 ?_
 refine Z0 ?_
 obtain ⟨e_, E1, H2⟩ := zbi H
 refine zjn (α := { y : Unit // e_ = .inl y }) (fun | ⟨_, _⟩ => ⟨noFr, noHp, 0⟩) ?_ ?_
 ·refine zbk ?_
  refine zlp (α := { q : Nat × Int // slices_IndexFunc_File__perm_in_c1_L1 n s c2 c3 q.1 q.2 = some e_ }) (fun | ⟨⟨c, t8⟩, _⟩ => ⟨upd 0 (.d (.sl (List.map eGFile s)) true) (upd 1 (.fn 92 [.d (.pt [.v (.string c2)] 0) true, .d (.pt [.v (.string c3)] 0) true]) (upd 7 (.v (.int .i64 (s.length : Int))) (upd 8 (.v (.int .i64 t8)) noFr))), noHp, 0⟩) (fun q => q.1.1) ⟨(n, 0), E1⟩ ?_ ?_
  ·exact ZR []
  ·rintro ⟨⟨c, t8⟩, L3⟩
   rcases c with _ | c
   ·exact Zx L3
   ·unfold slices_IndexFunc_File__perm_in_c1_L1 at L3
    try dsimp only at L3
    refine ZT 1 ?_
    refine Z0 ?_
    rcases zit L3 with ⟨c16, H17⟩ | ⟨c16, H17⟩
    ·obtain ⟨x2, b18, H19⟩ := zbi H17
     obtain ⟨h20, h21⟩ := zix b18
     try simp only [Int.reduceToNat, Int.toNat_natCast] at h21
     have h22 := map_at eGFile h21
     obtain ⟨t162, b24, H25⟩ := zbi H19
     refine Z1 (Y3 c16 (zno .i64 h20) h22) ?_
     refine ZC0 (perm_in_c1_ok b24) ?_
     refine Z1 (Y3 c16 (zno .i64 h20) h22) ?_
     rcases zit H25 with ⟨c26, H27⟩ | ⟨c26, H27⟩
     ·refine Z1 (Y4 c16 (zno .i64 h20) h22 c26) ?_
      obtain rfl := Zi H27
      obtain rfl := Zi H2
      exact ZE0
     ·refine Z1 (Y4 c16 (zno .i64 h20) h22 c26) ?_
      exact ⟨⟨(c, (IntKind.i64.wrap (t8 + 1))), H27⟩, ZR [], Nat.lt_succ_self _⟩
    ·refine Z1 c16 ?_
     obtain rfl := Zi H17
     exact ⟨⟨(), rfl⟩, ZR []⟩
 ·rintro ⟨_, he28⟩
  obtain rfl := he28.symm
  try dsimp only at H2
  refine ZT 1 ?_
  refine Z0 ?_
  obtain rfl := Zi H2
  exact ZE0
def slices_ContainsFunc_File__perm_in_c1 (n : Nat) (s : List GFile) (c2 : ByteArray) (c3 : ByteArray) : Option Bool :=
 (slices_IndexFunc_File__perm_in_c1 n s c2 c3).bind fun t7 =>
 some (decide (0 ≤ t7))
theorem slices_ContainsFunc_File__perm_in_c1_ok {n : Nat} {s : List GFile} {c2 : ByteArray} {c3 : ByteArray} {r : Bool} (H : slices_ContainsFunc_File__perm_in_c1 n s c2 c3 = some r) : PureA Tryz.prog 58 [.d (D.sl (List.map eGFile s)), .fn 92 [D.pt [D.v (.string c2)] 0, D.pt [D.v (.string c3)] 0]] (D.v (.bool r)) true := by
 unfold slices_ContainsFunc_File__perm_in_c1 at H
 refine ZPA tab_ok fol (rs := #[.tmp 4]) Tryz.func58 ?_
 refine ZT 1 ?_
 obtain ⟨t7, b1, H2⟩ := zbi H
 refine Z0 ?_
 refine ZA0 (slices_IndexFunc_File__perm_in_c1_ok b1) ?_
 refine Z0 ?_
 obtain rfl := Zi H2
 exact ZE0
def perm_in (n : Nat) (l : List GFile) (user : ByteArray) (group : ByteArray) : Option Bool :=
 (slices_ContainsFunc_File__perm_in_c1 n l group user).bind fun t9 =>
 some t9
theorem perm_in_ok {n : Nat} {l : List GFile} {user : ByteArray} {group : ByteArray} {r : Bool} (H : perm_in n l user group = some r) : PureOK Tryz.prog 66 [D.sl (List.map eGFile l), D.v (.string user), D.v (.string group)] (D.v (.bool r)) true := by
 unfold perm_in at H
 refine ZP tab_ok fol (rs := #[.tmp 6]) Tryz.func66 ?_
 refine ZT 1 ?_
 obtain ⟨t9, b1, H2⟩ := zbi H
 refine Z0 ?_
 refine ZA0 (slices_ContainsFunc_File__perm_in_c1_ok b1) ?_
 refine Z0 ?_
 obtain rfl := Zi H2
 exact ZE0
def perm_groups_L1 (n : Nat) (l : List GFile) (user : ByteArray) (f : GFile) (acl : List GEntry) : Nat → (List GEntry × Int) → Option (List GEntry)
 | 0, _ => none
 | c + 1, (out, t14) =>
  (if (decide (t14 < (acl.length : Int))) then
   (idx acl t14).bind fun x2 =>
   (if x2.default then
    perm_groups_L1 n l user f acl c (out, (IntKind.i64.wrap (t14 + 1)))
   else
    (if (x2.kind == 3) then
     (perm_in n l user f.group).bind fun t282 =>
     (if t282 then
      (app out [(⟨x2.kind, false, x2.name, x2.bits⟩ : GEntry)]).bind fun l2 =>
      perm_groups_L1 n l user f acl c (l2, (IntKind.i64.wrap (t14 + 1)))
     else
      (if (x2.kind == 4) then
       (perm_in n l user x2.name).bind fun t393 =>
       (if t393 then
        (app out [(⟨x2.kind, false, x2.name, x2.bits⟩ : GEntry)]).bind fun l3 =>
        perm_groups_L1 n l user f acl c (l3, (IntKind.i64.wrap (t14 + 1)))
       else
        perm_groups_L1 n l user f acl c (out, (IntKind.i64.wrap (t14 + 1))))
      else
       perm_groups_L1 n l user f acl c (out, (IntKind.i64.wrap (t14 + 1)))))
    else
     (if (x2.kind == 4) then
      (perm_in n l user x2.name).bind fun t394 =>
      (if t394 then
       (app out [(⟨x2.kind, false, x2.name, x2.bits⟩ : GEntry)]).bind fun l4 =>
       perm_groups_L1 n l user f acl c (l4, (IntKind.i64.wrap (t14 + 1)))
      else
       perm_groups_L1 n l user f acl c (out, (IntKind.i64.wrap (t14 + 1))))
     else
      perm_groups_L1 n l user f acl c (out, (IntKind.i64.wrap (t14 + 1))))))
  else
   some out)
def perm_groups_L1_f (n : Nat) (l : List GFile) (user : ByteArray) (f : GFile) (_ : List GEntry) (st : List GEntry) (x2 : GEntry) (k : List GEntry → Option (List GEntry)) : Option (List GEntry) :=
 match st with
 | out =>
  (if x2.default then
   k out
  else
   (if (x2.kind == 3) then
    (perm_in n l user f.group).bind fun t282 =>
    (if t282 then
     (app out [(⟨x2.kind, false, x2.name, x2.bits⟩ : GEntry)]).bind fun l2 =>
     k l2
    else
     (if (x2.kind == 4) then
      (perm_in n l user x2.name).bind fun t393 =>
      (if t393 then
       (app out [(⟨x2.kind, false, x2.name, x2.bits⟩ : GEntry)]).bind fun l3 =>
       k l3
      else
       k out)
     else
      k out))
   else
    (if (x2.kind == 4) then
     (perm_in n l user x2.name).bind fun t394 =>
     (if t394 then
      (app out [(⟨x2.kind, false, x2.name, x2.bits⟩ : GEntry)]).bind fun l4 =>
      k l4
     else
      k out)
    else
     k out)))
def perm_groups_L1_e (_ : Nat) (_ : List GFile) (_ : ByteArray) (_ : GFile) (_ : List GEntry) (st : List GEntry) : Option (List GEntry) :=
 match st with
 | out => some out
theorem perm_groups_L1_list (n : Nat) (l : List GFile) (user : ByteArray) (f : GFile) (acl : List GEntry) (hx : acl.length < 4611686018427387904) (c : Nat) (st : List GEntry) (ix : Nat) (hi : ix ≤ acl.length) (hc : acl.length - ix < c) : perm_groups_L1 n l user f acl c (match st, (ix : Int) with | out, ix => (out, ix)) = foldK (perm_groups_L1_f n l user f acl) (perm_groups_L1_e n l user f acl) (acl.drop ix) st :=
 loop_list (fun c st ix => perm_groups_L1 n l user f acl c (match st, ix with | out, ix => (out, ix))) acl (perm_groups_L1_f n l user f acl) (perm_groups_L1_e n l user f acl) (fun _ _ _ => rfl) hx c st ix hi hc

def perm_groups (n : Nat) (l : List GFile) (user : ByteArray) (f : GFile) (acl : List GEntry) : Option (List GEntry) :=
 (
  perm_groups_L1 n l user f acl n ([], 0) : Option (List GEntry)).bind fun out3 =>
 some out3
theorem perm_groups_ok {n : Nat} {l : List GFile} {user : ByteArray} {f : GFile} {acl : List GEntry} {r : List GEntry} (H : perm_groups n l user f acl = some r) : PureOK Tryz.prog 32 [D.sl (List.map eGFile l), D.v (.string user), D.ag (eGFile f), D.sl (List.map eGEntry acl)] (D.sl (List.map eGEntry r)) true := by
 unfold perm_groups at H
 refine ZP tab_ok fol (rs := #[.tmp 8]) Tryz.func32 ?_
 refine zsq (ZT 1 ?_)
 refine Z0 ?_
 refine zsq (ZT 1 ?_)
 refine Z0 ?_
 refine zsq (zsq ?_)
 refine ZT 1 ?_
 refine Z0 ?_
 obtain ⟨e_, E1, H2⟩ := zbi H
 refine zjn (α := { y : List GEntry // e_ = y } × Nat) (fun | ⟨⟨out3, _⟩, g3⟩ => ⟨upd 9 (accV 0 g3 (List.map eGEntry out3)) noFr, upd 0 (accO 4 g3 false (List.map eGEntry out3)) noHp, 1⟩) ?_ ?_
 ·refine zbk ?_
  refine zlp (α := { q : (Nat × (List GEntry × Int)) × Nat // perm_groups_L1 n l user f acl q.1.1 q.1.2 = some e_ }) (fun | ⟨⟨⟨c, ⟨out, t14⟩⟩, g⟩, _⟩ => ⟨upd 0 (.d (.sl (List.map eGFile l)) true) (upd 1 (.v (.string user)) (upd 6 (.pt 0 0) (upd 9 (accV 1 g (List.map eGEntry out)) (upd 12 (.d (.sl (List.map eGEntry acl)) true) (upd 13 (.v (.int .i64 (acl.length : Int))) (upd 14 (.v (.int .i64 t14)) noFr)))))), upd 0 (some (.bx [.v (.int .i64 f.kind), .v (.string f.name), .d (.sl (List.map eS f.users)) true, .v (.string f.owner), .v (.string f.group), .d (.sl (List.map eGEntry f.acl)) true, .v (.int .i64 f.at_)])) (upd 1 (accO 4 g false (List.map eGEntry out)) noHp), 2⟩) (fun q => q.1.1.1) ⟨((n, ([], 0)), 0), E1⟩ ?_ ?_
  ·exact ZR [(0, 0)]
  ·rintro ⟨⟨⟨c, ⟨out, t14⟩⟩, g⟩, L3⟩
   rcases c with _ | c
   ·exact Zx L3
   ·unfold perm_groups_L1 at L3
    try dsimp only at L3
    refine ZT 1 ?_
    refine Z0 ?_
    rcases zit L3 with ⟨c32, H33⟩ | ⟨c32, H33⟩
    ·obtain ⟨x2, b34, H35⟩ := zbi H33
     obtain ⟨h36, h37⟩ := zix b34
     try simp only [Int.reduceToNat, Int.toNat_natCast] at h37
     have h38 := map_at eGEntry h37
     refine Z1 (Y3 c32 (zno .i64 h36) h38) ?_
     rcases zit H35 with ⟨c40, H41⟩ | ⟨c40, H41⟩
     ·refine Z1 (Y4 c32 (zno .i64 h36) h38 c40) ?_
      exact ⟨⟨((c, (out, (IntKind.i64.wrap (t14 + 1)))), g), H41⟩, ZR [(0, 0), (1, 1)], Nat.lt_succ_self _⟩
     ·refine Z1 (Y4 c32 (zno .i64 h36) h38 c40) ?_
      rcases zit H41 with ⟨c42, H43⟩ | ⟨c42, H43⟩
      ·obtain ⟨t282, b44, H45⟩ := zbi H43
       refine Z1 (Y5 c32 (zno .i64 h36) h38 c40 c42) ?_
       refine ZC0 (perm_in_ok b44) ?_
       refine Z1 (Y5 c32 (zno .i64 h36) h38 c40 c42) ?_
       rcases zit H45 with ⟨c46, H47⟩ | ⟨c46, H47⟩
       ·obtain ⟨l2, b48, H49⟩ := zbi H47
        obtain ⟨h50, h51⟩ := app_inv b48
        have h50 : out.length + 1 ≤ 4294967296 := h50
        have h52 : List.map eGEntry out ++ [[.v (.int .i64 x2.kind), .v (.bool false), .v (.string x2.name), .v (.int .i64 x2.bits)]] = List.map eGEntry l2 := app_map eGEntry h51
        have h53 : out.length + 1 = l2.length := app_len h51
        have h54 : l2.length ≤ 4294967296 := by omega
        have q55 : 0 < l2.length := by omega
        refine Z1 (Y2 (Y6 c32 (zno .i64 h36) h38 c40 c42 c46) (Y4 h50 h52 h53 h54)) ?_
        rcases out with _ | ⟨q0, q1⟩
        ·try simp only [List.map_nil, accI, accN]
         exact ⟨⟨((c, (l2, (IntKind.i64.wrap (t14 + 1)))), 0), H49⟩, ZR [(0, 0), (1, 34)], Nat.lt_succ_self _⟩
        ·try simp only [List.map_cons, accI, accN]
         exact ⟨⟨((c, (l2, (IntKind.i64.wrap (t14 + 1)))), (g + 1)), H49⟩, ZR [(0, 0), (1, 1)], Nat.lt_succ_self _⟩
       ·refine Z1 (Y6 c32 (zno .i64 h36) h38 c40 c42 c46) ?_
        rcases zit H47 with ⟨c56, H57⟩ | ⟨c56, H57⟩
        ·obtain ⟨t393, b58, H59⟩ := zbi H57
         refine Z1 (Y2 (Y6 c32 (zno .i64 h36) h38 c40 c42 c46) c56) ?_
         refine ZC0 (perm_in_ok b58) ?_
         refine Z1 (Y2 (Y6 c32 (zno .i64 h36) h38 c40 c42 c46) c56) ?_
         rcases zit H59 with ⟨c60, H61⟩ | ⟨c60, H61⟩
         ·obtain ⟨l3, b62, H63⟩ := zbi H61
          obtain ⟨h64, h65⟩ := app_inv b62
          have h64 : out.length + 1 ≤ 4294967296 := h64
          have h66 : List.map eGEntry out ++ [[.v (.int .i64 x2.kind), .v (.bool false), .v (.string x2.name), .v (.int .i64 x2.bits)]] = List.map eGEntry l3 := app_map eGEntry h65
          have h67 : out.length + 1 = l3.length := app_len h65
          have h68 : l3.length ≤ 4294967296 := by omega
          have q69 : 0 < l3.length := by omega
          refine Z1 (Y2 (Y6 c32 (zno .i64 h36) h38 c40 c42 c46) (Y6 c56 c60 h64 h66 h67 h68)) ?_
          rcases out with _ | ⟨q0, q1⟩
          ·try simp only [List.map_nil, accI, accN]
           exact ⟨⟨((c, (l3, (IntKind.i64.wrap (t14 + 1)))), 0), H63⟩, ZR [(0, 0), (1, 34)], Nat.lt_succ_self _⟩
          ·try simp only [List.map_cons, accI, accN]
           exact ⟨⟨((c, (l3, (IntKind.i64.wrap (t14 + 1)))), (g + 1)), H63⟩, ZR [(0, 0), (1, 1)], Nat.lt_succ_self _⟩
         ·refine Z1 (Y2 (Y6 c32 (zno .i64 h36) h38 c40 c42 c46) (Y2 c56 c60)) ?_
          exact ⟨⟨((c, (out, (IntKind.i64.wrap (t14 + 1)))), g), H61⟩, ZR [(0, 0), (1, 1)], Nat.lt_succ_self _⟩
        ·refine Z1 (Y2 (Y6 c32 (zno .i64 h36) h38 c40 c42 c46) c56) ?_
         exact ⟨⟨((c, (out, (IntKind.i64.wrap (t14 + 1)))), g), H57⟩, ZR [(0, 0), (1, 1)], Nat.lt_succ_self _⟩
      ·refine Z1 (Y5 c32 (zno .i64 h36) h38 c40 c42) ?_
       rcases zit H43 with ⟨c70, H71⟩ | ⟨c70, H71⟩
       ·obtain ⟨t394, b72, H73⟩ := zbi H71
        refine Z1 (Y6 c32 (zno .i64 h36) h38 c40 c42 c70) ?_
        refine ZC0 (perm_in_ok b72) ?_
        refine Z1 (Y6 c32 (zno .i64 h36) h38 c40 c42 c70) ?_
        rcases zit H73 with ⟨c74, H75⟩ | ⟨c74, H75⟩
        ·obtain ⟨l4, b76, H77⟩ := zbi H75
         obtain ⟨h78, h79⟩ := app_inv b76
         have h78 : out.length + 1 ≤ 4294967296 := h78
         have h80 : List.map eGEntry out ++ [[.v (.int .i64 x2.kind), .v (.bool false), .v (.string x2.name), .v (.int .i64 x2.bits)]] = List.map eGEntry l4 := app_map eGEntry h79
         have h81 : out.length + 1 = l4.length := app_len h79
         have h82 : l4.length ≤ 4294967296 := by omega
         have q83 : 0 < l4.length := by omega
         refine Z1 (Y2 (Y6 c32 (zno .i64 h36) h38 c40 c42 c70) (Y5 c74 h78 h80 h81 h82)) ?_
         rcases out with _ | ⟨q0, q1⟩
         ·try simp only [List.map_nil, accI, accN]
          exact ⟨⟨((c, (l4, (IntKind.i64.wrap (t14 + 1)))), 0), H77⟩, ZR [(0, 0), (1, 34)], Nat.lt_succ_self _⟩
         ·try simp only [List.map_cons, accI, accN]
          exact ⟨⟨((c, (l4, (IntKind.i64.wrap (t14 + 1)))), (g + 1)), H77⟩, ZR [(0, 0), (1, 1)], Nat.lt_succ_self _⟩
        ·refine Z1 (Y2 (Y6 c32 (zno .i64 h36) h38 c40 c42 c70) c74) ?_
         exact ⟨⟨((c, (out, (IntKind.i64.wrap (t14 + 1)))), g), H75⟩, ZR [(0, 0), (1, 1)], Nat.lt_succ_self _⟩
       ·refine Z1 (Y6 c32 (zno .i64 h36) h38 c40 c42 c70) ?_
        exact ⟨⟨((c, (out, (IntKind.i64.wrap (t14 + 1)))), g), H71⟩, ZR [(0, 0), (1, 1)], Nat.lt_succ_self _⟩
    ·refine Z1 c32 ?_
     obtain rfl := Zi H33
     exact ⟨⟨⟨out, rfl⟩, g⟩, ZR [(0, 1)]⟩
 ·rintro ⟨⟨out3, he84⟩, g3⟩
  obtain rfl := he84.symm
  try dsimp only at H2
  refine ZT 1 ?_
  refine Z0 ?_
  obtain rfl := Zi H2
  exact ZE0
def perm_Can_c2 (_ : Nat) (x : GEntry) (c2 : Int) : Option Bool :=
 some (decide (0 < (IntKind.i64.wrap (an x.bits c2 : Int))))
theorem perm_Can_c2_ok {n : Nat} {x : GEntry} {c2 : Int} {r : Bool} (H : perm_Can_c2 n x c2 = some r) : PureOK Tryz.prog 34 [D.ag (eGEntry x), D.pt [D.v (.int .i64 c2)] 0] (D.v (.bool r)) true := by
 unfold perm_Can_c2 at H
 refine ZP tab_ok fol (rs := #[.tmp 3]) Tryz.func34 ?_
 refine ZT 1 ?_
 refine Z0 ?_
 obtain rfl := Zi H
 exact ZE0
def slices_IndexFunc_Entry__perm_Can_c2_L1 (n : Nat) (s : List GEntry) (c2 : Int) : Nat → Int → Option ((Unit) ⊕ Int)
 | 0, _ => none
 | c + 1, t8 =>
  (if (decide (t8 < (s.length : Int))) then
   (idx s t8).bind fun x2 =>
   (perm_Can_c2 n x2 c2).bind fun t162 =>
   (if t162 then
    some (.inr t8)
   else
    slices_IndexFunc_Entry__perm_Can_c2_L1 n s c2 c (IntKind.i64.wrap (t8 + 1)))
  else
   some (.inl ()))

def slices_IndexFunc_Entry__perm_Can_c2 (n : Nat) (s : List GEntry) (c2 : Int) : Option Int :=
 (
  slices_IndexFunc_Entry__perm_Can_c2_L1 n s c2 n 0 : Option ((Unit) ⊕ Int)).bind fun
  | .inl _ =>
   some (-1)
  | .inr r => some r
theorem slices_IndexFunc_Entry__perm_Can_c2_ok {n : Nat} {s : List GEntry} {c2 : Int} {r : Int} (H : slices_IndexFunc_Entry__perm_Can_c2 n s c2 = some r) : PureA Tryz.prog 67 [.d (D.sl (List.map eGEntry s)), .fn 34 [D.pt [D.v (.int .i64 c2)] 0]] (D.v (.int .i64 r)) true := by
 unfold slices_IndexFunc_Entry__perm_Can_c2 at H
 refine ZPA tab_ok fol (rs := #[.tmp 4]) Tryz.func67 ?_
 refine zsq (ZT 1 ?_)
 refine Z0 ?_
 refine zsq (zsq ?_)
 refine ZT 1 ?_
 refine Z0 ?_
 obtain ⟨e_, E1, H2⟩ := zbi H
 refine zjn (α := { y : Unit // e_ = .inl y }) (fun | ⟨_, _⟩ => ⟨noFr, noHp, 0⟩) ?_ ?_
 ·refine zbk ?_
  refine zlp (α := { q : Nat × Int // slices_IndexFunc_Entry__perm_Can_c2_L1 n s c2 q.1 q.2 = some e_ }) (fun | ⟨⟨c, t8⟩, _⟩ => ⟨upd 0 (.d (.sl (List.map eGEntry s)) true) (upd 1 (.fn 34 [.d (.pt [.v (.int .i64 c2)] 0) true]) (upd 7 (.v (.int .i64 (s.length : Int))) (upd 8 (.v (.int .i64 t8)) noFr))), noHp, 0⟩) (fun q => q.1.1) ⟨(n, 0), E1⟩ ?_ ?_
  ·exact ZR []
  ·rintro ⟨⟨c, t8⟩, L3⟩
   rcases c with _ | c
   ·exact Zx L3
   ·unfold slices_IndexFunc_Entry__perm_Can_c2_L1 at L3
    try dsimp only at L3
    refine ZT 1 ?_
    refine Z0 ?_
    rcases zit L3 with ⟨c16, H17⟩ | ⟨c16, H17⟩
    ·obtain ⟨x2, b18, H19⟩ := zbi H17
     obtain ⟨h20, h21⟩ := zix b18
     try simp only [Int.reduceToNat, Int.toNat_natCast] at h21
     have h22 := map_at eGEntry h21
     obtain ⟨t162, b24, H25⟩ := zbi H19
     refine Z1 (Y3 c16 (zno .i64 h20) h22) ?_
     refine ZC0 (perm_Can_c2_ok b24) ?_
     refine Z1 (Y3 c16 (zno .i64 h20) h22) ?_
     rcases zit H25 with ⟨c26, H27⟩ | ⟨c26, H27⟩
     ·refine Z1 (Y4 c16 (zno .i64 h20) h22 c26) ?_
      obtain rfl := Zi H27
      obtain rfl := Zi H2
      exact ZE0
     ·refine Z1 (Y4 c16 (zno .i64 h20) h22 c26) ?_
      exact ⟨⟨(c, (IntKind.i64.wrap (t8 + 1))), H27⟩, ZR [], Nat.lt_succ_self _⟩
    ·refine Z1 c16 ?_
     obtain rfl := Zi H17
     exact ⟨⟨(), rfl⟩, ZR []⟩
 ·rintro ⟨_, he28⟩
  obtain rfl := he28.symm
  try dsimp only at H2
  refine ZT 1 ?_
  refine Z0 ?_
  obtain rfl := Zi H2
  exact ZE0
def slices_ContainsFunc_Entry__perm_Can_c2 (n : Nat) (s : List GEntry) (c2 : Int) : Option Bool :=
 (slices_IndexFunc_Entry__perm_Can_c2 n s c2).bind fun t7 =>
 some (decide (0 ≤ t7))
theorem slices_ContainsFunc_Entry__perm_Can_c2_ok {n : Nat} {s : List GEntry} {c2 : Int} {r : Bool} (H : slices_ContainsFunc_Entry__perm_Can_c2 n s c2 = some r) : PureA Tryz.prog 33 [.d (D.sl (List.map eGEntry s)), .fn 34 [D.pt [D.v (.int .i64 c2)] 0]] (D.v (.bool r)) true := by
 unfold slices_ContainsFunc_Entry__perm_Can_c2 at H
 refine ZPA tab_ok fol (rs := #[.tmp 4]) Tryz.func33 ?_
 refine ZT 1 ?_
 obtain ⟨t7, b1, H2⟩ := zbi H
 refine Z0 ?_
 refine ZA0 (slices_IndexFunc_Entry__perm_Can_c2_ok b1) ?_
 refine Z0 ?_
 obtain rfl := Zi H2
 exact ZE0
def perm_Can (n : Nat) (t0 : List GFile) (t1 : ByteArray) (t2 : ByteArray) (t3 : Int) : Option Bool :=
 (perm_File n t0 t2).bind fun t21 =>
 (
  (if t21.2 then
   (perm_isUser n t0 t1).bind fun t29 =>
   (if t29 then
    (if (t3 != 4) then
     (if (t3 != 2) then
      some (t3 != 1)
     else
      some false)
    else
     some false)
   else
    some true)
  else
   some true) : Option (Bool)).bind fun t43 =>
 (if t43 then
  some false
 else
  (mask_Acl n t21.1.acl).bind fun t47 =>
  (perm_Can_c1 n 5 ({ data := #[] }) t47.1 t3).bind fun t52 =>
  (if (t21.1.owner.toList == t1.toList) then
   (perm_Can_c1 n 1 ({ data := #[] }) t47.1 t3).bind fun t58 =>
   some t58
  else
   (mask_Find n t47.1 false 2 t1).bind fun t62 =>
   (if t62.2 then
    (
     (if t52 then
      some (decide (0 < (IntKind.i64.wrap (an t62.1.bits t3 : Int))))
     else
      some false) : Option (Bool)).bind fun t8 =>
    some t8
   else
    (perm_groups n t0 t1 (⟨t21.1.kind, t21.1.name, t21.1.users, t21.1.owner, t21.1.group, t21.1.acl, t21.1.at_⟩ : GFile) t47.1).bind fun t78 =>
    (if (decide (0 < (t78.length : Int))) then
     (if t52 then
      (slices_ContainsFunc_Entry__perm_Can_c2 n t78 t3).bind fun t86 =>
      some t86
     else
      some false)
    else
     (perm_Can_c1 n 6 ({ data := #[] }) t47.1 t3).bind fun t89 =>
     some t89))))
theorem perm_Can_ok {n : Nat} {t0 : List GFile} {t1 : ByteArray} {t2 : ByteArray} {t3 : Int} {r : Bool} (H : perm_Can n t0 t1 t2 t3 = some r) : PureOK Tryz.prog 10 [D.sl (List.map eGFile t0), D.v (.string t1), D.v (.string t2), D.v (.int .i64 t3)] (D.v (.bool r)) true := by
 unfold perm_Can at H
 refine ZP tab_ok fol (rs := #[.tmp 8]) Tryz.func10 ?_
 refine zsq (ZT 1 ?_)
 refine Z0 ?_
 refine zsq (ZT 1 ?_)
 obtain ⟨t21, b1, H2⟩ := zbi H
 refine Z0 ?_
 refine ZC0 (perm_File_ok b1) ?_
 refine Z0 ?_
 refine zsq (zsq ?_)
 obtain ⟨e_, E3, H4⟩ := zbi H2
 refine zjn (α := { y : Bool // e_ = y }) (fun | ⟨t43, _⟩ => ⟨upd 0 (.d (.sl (List.map eGFile t0)) true) (upd 1 (.v (.string t1)) (upd 7 (.pt 0 0) (upd 9 (.pt 1 0) (upd 43 (.v (.bool t43)) noFr)))), upd 0 (some (.bx [.v (.int .i64 t3)])) (upd 1 (some (.bx [.v (.int .i64 t21.1.kind), .v (.string t21.1.name), .d (.sl (List.map eS t21.1.users)) true, .v (.string t21.1.owner), .v (.string t21.1.group), .d (.sl (List.map eGEntry t21.1.acl)) true, .v (.int .i64 t21.1.at_)])) noHp), 2⟩) ?_ ?_
 ·refine ZT 1 ?_
  refine Z0 ?_
  rcases zit E3 with ⟨c5, H6⟩ | ⟨c5, H6⟩
  ·obtain ⟨t29, b7, H8⟩ := zbi H6
   refine Z1 c5 ?_
   refine ZC0 (perm_isUser_ok b7) ?_
   refine Z1 c5 ?_
   rcases zit H8 with ⟨c9, H10⟩ | ⟨c9, H10⟩
   ·refine Z1 (Y2 c5 c9) ?_
    rcases zit H10 with ⟨c11, H12⟩ | ⟨c11, H12⟩
    ·refine Z1 (Y3 c5 c9 c11) ?_
     rcases zit H12 with ⟨c13, H14⟩ | ⟨c13, H14⟩
     ·refine Z1 (Y4 c5 c9 c11 c13) ?_
      obtain rfl := Zi H14
      exact ⟨⟨(t3 != 1), rfl⟩, ZR [(0, 0), (1, 8)]⟩
     ·refine Z1 (Y4 c5 c9 c11 c13) ?_
      obtain rfl := Zi H14
      exact ⟨⟨false, rfl⟩, ZR [(0, 0), (1, 8)]⟩
    ·refine Z1 (Y3 c5 c9 c11) ?_
     obtain rfl := Zi H12
     exact ⟨⟨false, rfl⟩, ZR [(0, 0), (1, 8)]⟩
   ·refine Z1 (Y2 c5 c9) ?_
    obtain rfl := Zi H10
    exact ⟨⟨true, rfl⟩, ZR [(0, 0), (1, 8)]⟩
  ·refine Z1 c5 ?_
   obtain rfl := Zi H6
   exact ⟨⟨true, rfl⟩, ZR [(0, 0), (1, 8)]⟩
 ·rintro ⟨t43, he44⟩
  obtain rfl := he44.symm
  try dsimp only at H4
  refine ZT 1 ?_
  refine Z0 ?_
  rcases zit H4 with ⟨c15, H16⟩ | ⟨c15, H16⟩
  ·refine Z1 c15 ?_
   obtain rfl := Zi H16
   exact ZE0
  ·refine Z1 c15 ?_
   refine zsq (ZT 1 ?_)
   obtain ⟨t47, b17, H18⟩ := zbi H16
   refine Z1 c15 ?_
   refine ZC0 (mask_Acl_ok b17) ?_
   refine Z1 c15 ?_
   refine zsq (ZT 1 ?_)
   refine Z1 c15 ?_
   refine zsq (ZT 1 ?_)
   obtain ⟨t52, b19, H20⟩ := zbi H18
   refine Z1 c15 ?_
   refine ZA1 c15 (PureA.of_pure (perm_Can_c1_ok b19)) ?_
   refine Z1 c15 ?_
   refine zsq (ZT 1 ?_)
   refine Z1 c15 ?_
   rcases zit H20 with ⟨c21, H22⟩ | ⟨c21, H22⟩
   ·obtain ⟨t58, b23, H24⟩ := zbi H22
    refine Z1 (Y2 c15 c21) ?_
    refine ZA1 (Y2 c15 c21) (PureA.of_pure (perm_Can_c1_ok b23)) ?_
    refine Z1 (Y2 c15 c21) ?_
    obtain rfl := Zi H24
    exact ZE0
   ·refine Z1 (Y2 c15 c21) ?_
    refine zsq (zsq ?_)
    refine ZT 1 ?_
    obtain ⟨t62, b25, H26⟩ := zbi H22
    refine Z1 (Y2 c15 c21) ?_
    refine ZC0 (mask_Find_ok b25) ?_
    refine Z1 (Y2 c15 c21) ?_
    refine zsq (ZT 1 ?_)
    refine Z1 (Y2 c15 c21) ?_
    rcases zit H26 with ⟨c27, H28⟩ | ⟨c27, H28⟩
    ·refine runR_condT (by rfl) c27 ?_
     refine Z1 (Y3 c15 c21 c27) ?_
     refine zsq ?_
     obtain ⟨e_2, E29, H30⟩ := zbi H28
     refine zjn (α := { y : Bool // e_2 = y }) (fun | ⟨t8, _⟩ => ⟨upd 8 (.v (.bool t8)) noFr, noHp, 0⟩) ?_ ?_
     ·refine ZT 1 ?_
      refine Z0 ?_
      rcases zit E29 with ⟨c31, H32⟩ | ⟨c31, H32⟩
      ·refine Z1 c31 ?_
       obtain rfl := Zi H32
       exact ⟨⟨(decide (0 < (IntKind.i64.wrap (an t62.1.bits t3 : Int)))), rfl⟩, ZR []⟩
      ·refine Z1 c31 ?_
       obtain rfl := Zi H32
       exact ⟨⟨false, rfl⟩, ZR []⟩
     ·rintro ⟨t8, he33⟩
      obtain rfl := he33.symm
      try dsimp only at H30
      refine ZT 1 ?_
      refine Z0 ?_
      obtain rfl := Zi H30
      exact ZE0
    ·refine runR_condF (by rfl) c27 ?_
     refine Z1 (Y3 c15 c21 c27) ?_
     refine ZT 2 ?_
     obtain ⟨t78, b34, H35⟩ := zbi H28
     refine Z1 (Y3 c15 c21 c27) ?_
     refine ZC0 (perm_groups_ok b34) ?_
     refine Z1 (Y3 c15 c21 c27) ?_
     rcases zit H35 with ⟨c36, H37⟩ | ⟨c36, H37⟩
     ·refine Z1 (Y4 c15 c21 c27 c36) ?_
      rcases zit H37 with ⟨c38, H39⟩ | ⟨c38, H39⟩
      ·obtain ⟨t86, b40, H41⟩ := zbi H39
       refine Z1 (Y5 c15 c21 c27 c36 c38) ?_
       refine ZA1 (Y5 c15 c21 c27 c36 c38) (slices_ContainsFunc_Entry__perm_Can_c2_ok b40) ?_
       refine Z1 (Y5 c15 c21 c27 c36 c38) ?_
       obtain rfl := Zi H41
       exact ZE0
      ·refine Z1 (Y5 c15 c21 c27 c36 c38) ?_
       obtain rfl := Zi H39
       exact ZE0
     ·obtain ⟨t89, b42, H43⟩ := zbi H37
      refine Z1 (Y4 c15 c21 c27 c36) ?_
      refine ZA1 (Y4 c15 c21 c27 c36) (PureA.of_pure (perm_Can_c1_ok b42)) ?_
      refine Z1 (Y4 c15 c21 c27 c36) ?_
      obtain rfl := Zi H43
      exact ZE0
def ref17_find_L1 (n : Nat) (l : List GFile) (path : ByteArray) : Nat → Int → Option ((Unit) ⊕ (GFile × Bool))
 | 0, _ => none
 | c + 1, i =>
  (if (decide (i < (l.length : Int))) then
   (idx l i).bind fun x2 =>
   (ref17_item n x2).bind fun t172 =>
   (if t172 then
    (if (x2.name.toList == path.toList) then
     some (.inr (x2, true))
    else
     ref17_find_L1 n l path c (IntKind.i64.wrap (i + 1)))
   else
    ref17_find_L1 n l path c (IntKind.i64.wrap (i + 1)))
  else
   some (.inl ()))
def ref17_find (n : Nat) (l : List GFile) (path : ByteArray) : Option (GFile × Bool) :=
 (
  ref17_find_L1 n l path n 0 : Option ((Unit) ⊕ (GFile × Bool))).bind fun
  | .inl _ =>
   some ((⟨0, ByteArray.empty, [], ByteArray.empty, ByteArray.empty, [], 0⟩ : GFile), false)
  | .inr r => some r
def ref17_inside_L2 (n : Nat) (l : List GFile) (user : ByteArray) (i : Int) : Nat → Int → Option ((Unit) ⊕ Bool)
 | 0, _ => none
 | c + 1, k4 =>
  (idx l i).bind fun x9 =>
  (if (decide (k4 < (x9.users.length : Int))) then
   (idx x9.users k4).bind fun x10 =>
   (if (x10.toList == user.toList) then
    some (.inr true)
   else
    ref17_inside_L2 n l user i c (IntKind.i64.wrap (k4 + 1)))
  else
   some (.inl ()))

def ref17_inside_L1 (n : Nat) (l : List GFile) (user : ByteArray) (group : ByteArray) : Nat → Int → Option ((Unit) ⊕ Bool)
 | 0, _ => none
 | c + 1, i =>
  (if (decide (i < (l.length : Int))) then
   (
    (idx l i).bind fun x6 =>
    (if (x6.kind != 2) then
     some true
    else
     some (!(x6.name.toList == group.toList))) : Option (Bool)).bind fun t292 =>
   (if t292 then
    ref17_inside_L1 n l user group c (IntKind.i64.wrap (i + 1))
   else
    (
     ref17_inside_L2 n l user i n 0 : Option ((Unit) ⊕ Bool)).bind fun
     | .inl _ =>
      ref17_inside_L1 n l user group c (IntKind.i64.wrap (i + 1))
     | .inr r => some (.inr r))
  else
   some (.inl ()))

def ref17_inside (n : Nat) (l : List GFile) (user : ByteArray) (group : ByteArray) : Option Bool :=
 (
  ref17_inside_L1 n l user group n 0 : Option ((Unit) ⊕ Bool)).bind fun
  | .inl _ =>
   some false
  | .inr r => some r
def ref17_Can_L1 (n : Nat) (t0 : List GFile) (t1 : ByteArray) (t24 : GFile × Bool) (t50 : List GEntry × Bool) : Nat → (Int × Int × Int × Int × Bool × Int × Int) → Option (Int × Int × Int × Int × Bool × Int)
 | 0, _ => none
 | c + 1, (t13, t14, t15, t16, t17, t18, t19) =>
  (if (decide (t19 < (t50.1.length : Int))) then
   (idx t50.1 t19).bind fun x2 =>
   (if x2.default then
    ref17_Can_L1 n t0 t1 t24 t50 c (t13, t14, t15, t16, t17, t18, (IntKind.i64.wrap (t19 + 1)))
   else
    (if (x2.kind == 1) then
     ref17_Can_L1 n t0 t1 t24 t50 c (x2.bits, t14, t15, t16, t17, t18, (IntKind.i64.wrap (t19 + 1)))
    else
     (if (x2.kind == 2) then
      (if (x2.name.toList == t1.toList) then
       ref17_Can_L1 n t0 t1 t24 t50 c (t13, t14, t15, x2.bits, t17, t18, (IntKind.i64.wrap (t19 + 1)))
      else
       ref17_Can_L1 n t0 t1 t24 t50 c (t13, t14, t15, t16, t17, t18, (IntKind.i64.wrap (t19 + 1))))
     else
      (if (x2.kind == 3) then
       (ref17_inside n t0 t1 t24.1.group).bind fun t872 =>
       (if t872 then
        ref17_Can_L1 n t0 t1 t24 t50 c (t13, t14, t15, t16, true, (IntKind.i64.wrap ((BitVec.ofInt IntKind.i64.bits t18 ||| BitVec.ofInt IntKind.i64.bits x2.bits).toNat : Int)), (IntKind.i64.wrap (t19 + 1)))
       else
        ref17_Can_L1 n t0 t1 t24 t50 c (t13, t14, t15, t16, t17, t18, (IntKind.i64.wrap (t19 + 1))))
      else
       (if (x2.kind == 4) then
        (ref17_inside n t0 t1 x2.name).bind fun t982 =>
        (if t982 then
         ref17_Can_L1 n t0 t1 t24 t50 c (t13, t14, t15, t16, true, (IntKind.i64.wrap ((BitVec.ofInt IntKind.i64.bits t18 ||| BitVec.ofInt IntKind.i64.bits x2.bits).toNat : Int)), (IntKind.i64.wrap (t19 + 1)))
        else
         ref17_Can_L1 n t0 t1 t24 t50 c (t13, t14, t15, t16, t17, t18, (IntKind.i64.wrap (t19 + 1))))
       else
        (if (x2.kind == 5) then
         ref17_Can_L1 n t0 t1 t24 t50 c (t13, t14, x2.bits, t16, t17, t18, (IntKind.i64.wrap (t19 + 1)))
        else
         ref17_Can_L1 n t0 t1 t24 t50 c (t13, x2.bits, t15, t16, t17, t18, (IntKind.i64.wrap (t19 + 1)))))))))
  else
   some (t13, t14, t15, t16, t17, t18))

def ref17_Can (n : Nat) (t0 : List GFile) (t1 : ByteArray) (t2 : ByteArray) (t3 : Int) : Option Bool :=
 (ref17_find n t0 t2).bind fun t24 =>
 (
  (if t24.2 then
   (ref17_told n t0 1 t1).bind fun t32 =>
   (if t32 then
    (if (t3 != 4) then
     (if (t3 != 2) then
      some (t3 != 1)
     else
      some false)
    else
     some false)
   else
    some true)
  else
   some true) : Option (Bool)).bind fun t46 =>
 (if t46 then
  some false
 else
  (ref17_Acl n t24.1.acl).bind fun t50 =>
  (
   ref17_Can_L1 n t0 t1 t24 t50 n (0, 0, 0, (-1), false, 0, 0) : Option (Int × Int × Int × Int × Bool × Int)).bind fun (t133, t143, t153, t163, t173, t183) =>
  (if (t1.toList == t24.1.owner.toList) then
   some ((IntKind.i64.wrap (an t133 t3 : Int)) != 0)
  else
   (if (decide (0 ≤ t163)) then
    some ((IntKind.i64.wrap (an (IntKind.i64.wrap (an t163 t153 : Int)) t3 : Int)) != 0)
   else
    (if t173 then
     some ((IntKind.i64.wrap (an (IntKind.i64.wrap (an t183 t153 : Int)) t3 : Int)) != 0)
    else
     some ((IntKind.i64.wrap (an t143 t3 : Int)) != 0)))))
def strings_Split (n : Nat) (s : ByteArray) (sep : ByteArray) : Option (List ByteArray) :=
 (strings_genSplit n s sep 0 (-1)).bind fun t7 =>
 some t7
theorem strings_Split_ok {n : Nat} {s : ByteArray} {sep : ByteArray} {r : List ByteArray} (H : strings_Split n s sep = some r) : PureOK Tryz.prog 71 [D.v (.string s), D.v (.string sep)] (D.sl (List.map eS r)) true := by
 unfold strings_Split at H
 refine ZP tab_ok fol (rs := #[.tmp 4]) Tryz.func71 ?_
 refine ZT 1 ?_
 obtain ⟨t7, b1, H2⟩ := zbi H
 refine Z0 ?_
 refine ZC0 (strings_genSplit_ok b1) ?_
 refine Z0 ?_
 obtain rfl := Zi H2
 exact ZE0
def acls_Path_c1 (n : Nat) (p : ByteArray) : Option Bool :=
 (atom_Name n p).bind fun t4 =>
 some (!t4)
theorem acls_Path_c1_ok {n : Nat} {p : ByteArray} {r : Bool} (H : acls_Path_c1 n p = some r) : PureOK Tryz.prog 73 [D.v (.string p)] (D.v (.bool r)) true := by
 unfold acls_Path_c1 at H
 refine ZP tab_ok fol (rs := #[.tmp 2]) Tryz.func73 ?_
 refine ZT 1 ?_
 obtain ⟨t4, b1, H2⟩ := zbi H
 refine Z0 ?_
 refine ZC0 (atom_Name_ok b1) ?_
 refine Z0 ?_
 obtain rfl := Zi H2
 exact ZE0
def slices_IndexFunc_string__acls_Path_c1_L1 (n : Nat) (s : List ByteArray) : Nat → Int → Option ((Unit) ⊕ Int)
 | 0, _ => none
 | c + 1, t8 =>
  (if (decide (t8 < (s.length : Int))) then
   (idx s t8).bind fun x2 =>
   (acls_Path_c1 n x2).bind fun t162 =>
   (if t162 then
    some (.inr t8)
   else
    slices_IndexFunc_string__acls_Path_c1_L1 n s c (IntKind.i64.wrap (t8 + 1)))
  else
   some (.inl ()))

def slices_IndexFunc_string__acls_Path_c1 (n : Nat) (s : List ByteArray) : Option Int :=
 (
  slices_IndexFunc_string__acls_Path_c1_L1 n s n 0 : Option ((Unit) ⊕ Int)).bind fun
  | .inl _ =>
   some (-1)
  | .inr r => some r
theorem slices_IndexFunc_string__acls_Path_c1_ok {n : Nat} {s : List ByteArray} {r : Int} (H : slices_IndexFunc_string__acls_Path_c1 n s = some r) : PureA Tryz.prog 98 [.d (D.sl (List.map eS s)), .fn 73 []] (D.v (.int .i64 r)) true := by
 unfold slices_IndexFunc_string__acls_Path_c1 at H
 refine ZPA tab_ok fol (rs := #[.tmp 4]) Tryz.func98 ?_
 refine zsq (ZT 1 ?_)
 refine Z0 ?_
 refine zsq (zsq ?_)
 refine ZT 1 ?_
 refine Z0 ?_
 obtain ⟨e_, E1, H2⟩ := zbi H
 refine zjn (α := { y : Unit // e_ = .inl y }) (fun | ⟨_, _⟩ => ⟨noFr, noHp, 0⟩) ?_ ?_
 ·refine zbk ?_
  refine zlp (α := { q : Nat × Int // slices_IndexFunc_string__acls_Path_c1_L1 n s q.1 q.2 = some e_ }) (fun | ⟨⟨c, t8⟩, _⟩ => ⟨upd 0 (.d (.sl (List.map eS s)) true) (upd 1 (.fn 73 []) (upd 7 (.v (.int .i64 (s.length : Int))) (upd 8 (.v (.int .i64 t8)) noFr))), noHp, 0⟩) (fun q => q.1.1) ⟨(n, 0), E1⟩ ?_ ?_
  ·exact ZR []
  ·rintro ⟨⟨c, t8⟩, L3⟩
   rcases c with _ | c
   ·exact Zx L3
   ·unfold slices_IndexFunc_string__acls_Path_c1_L1 at L3
    try dsimp only at L3
    refine ZT 1 ?_
    refine Z0 ?_
    rcases zit L3 with ⟨c16, H17⟩ | ⟨c16, H17⟩
    ·obtain ⟨x2, b18, H19⟩ := zbi H17
     obtain ⟨h20, h21⟩ := zix b18
     try simp only [Int.reduceToNat, Int.toNat_natCast] at h21
     have h22 := map_at eS h21
     obtain ⟨t162, b24, H25⟩ := zbi H19
     refine Z1 (Y3 c16 (zno .i64 h20) h22) ?_
     refine ZC0 (acls_Path_c1_ok b24) ?_
     refine Z1 (Y3 c16 (zno .i64 h20) h22) ?_
     rcases zit H25 with ⟨c26, H27⟩ | ⟨c26, H27⟩
     ·refine Z1 (Y4 c16 (zno .i64 h20) h22 c26) ?_
      obtain rfl := Zi H27
      obtain rfl := Zi H2
      exact ZE0
     ·refine Z1 (Y4 c16 (zno .i64 h20) h22 c26) ?_
      exact ⟨⟨(c, (IntKind.i64.wrap (t8 + 1))), H27⟩, ZR [], Nat.lt_succ_self _⟩
    ·refine Z1 c16 ?_
     obtain rfl := Zi H17
     exact ⟨⟨(), rfl⟩, ZR []⟩
 ·rintro ⟨_, he28⟩
  obtain rfl := he28.symm
  try dsimp only at H2
  refine ZT 1 ?_
  refine Z0 ?_
  obtain rfl := Zi H2
  exact ZE0
def slices_ContainsFunc_string__acls_Path_c1 (n : Nat) (s : List ByteArray) : Option Bool :=
 (slices_IndexFunc_string__acls_Path_c1 n s).bind fun t7 =>
 some (decide (0 ≤ t7))
theorem slices_ContainsFunc_string__acls_Path_c1_ok {n : Nat} {s : List ByteArray} {r : Bool} (H : slices_ContainsFunc_string__acls_Path_c1 n s = some r) : PureA Tryz.prog 72 [.d (D.sl (List.map eS s)), .fn 73 []] (D.v (.bool r)) true := by
 unfold slices_ContainsFunc_string__acls_Path_c1 at H
 refine ZPA tab_ok fol (rs := #[.tmp 4]) Tryz.func72 ?_
 refine ZT 1 ?_
 obtain ⟨t7, b1, H2⟩ := zbi H
 refine Z0 ?_
 refine ZA0 (slices_IndexFunc_string__acls_Path_c1_ok b1) ?_
 refine Z0 ?_
 obtain rfl := Zi H2
 exact ZE0
def acls_Path (n : Nat) (s : ByteArray) : Option Bool :=
 (if (s.toList == ({ data := #[47] } : ByteArray).toList) then
  some true
 else
  (strings_Split n s ({ data := #[47] })).bind fun t7 =>
  (if (decide (200 < (s.size : Int))) then
   some false
  else
   (if (decide ((t7.length : Int) < 2)) then
    some false
   else
    (if (decide (21 < (t7.length : Int))) then
     some false
    else
     (idx t7 0).bind fun x =>
     (if (x.toList == ({ data := #[] } : ByteArray).toList) then
      (slc t7 1 ((List.length t7) : Int)).bind fun l =>
      (slices_ContainsFunc_string__acls_Path_c1 n l).bind fun t29 =>
      some (!t29)
     else
      some false)))))
theorem acls_Path_ok {n : Nat} {s : ByteArray} {r : Bool} (H : acls_Path n s = some r) : PureOK Tryz.prog 42 [D.v (.string s)] (D.v (.bool r)) true := by
 unfold acls_Path at H
 refine ZP tab_ok fol (rs := #[.tmp 2]) Tryz.func42 ?_
 refine ZT 1 ?_
 refine Z0 ?_
 rcases zit H with ⟨c1, H2⟩ | ⟨c1, H2⟩
 ·refine Z1 c1 ?_
  obtain rfl := Zi H2
  exact ZE0
 ·obtain ⟨t7, b3, H4⟩ := zbi H2
  refine Z1 c1 ?_
  refine ZC0 (strings_Split_ok b3) ?_
  refine Z1 c1 ?_
  rcases zit H4 with ⟨c5, H6⟩ | ⟨c5, H6⟩
  ·refine Z1 (Y2 c1 c5) ?_
   obtain rfl := Zi H6
   exact ZE0
  ·refine Z1 (Y2 c1 c5) ?_
   rcases zit H6 with ⟨c7, H8⟩ | ⟨c7, H8⟩
   ·refine Z1 (Y3 c1 c5 c7) ?_
    obtain rfl := Zi H8
    exact ZE0
   ·refine Z1 (Y3 c1 c5 c7) ?_
    rcases zit H8 with ⟨c9, H10⟩ | ⟨c9, H10⟩
    ·refine Z1 (Y4 c1 c5 c7 c9) ?_
     obtain rfl := Zi H10
     exact ZE0
    ·obtain ⟨x, b11, H12⟩ := zbi H10
     obtain ⟨h13, h14⟩ := zix b11
     try simp only [Int.reduceToNat] at h14
     have h15 := map_at eS h14
     refine Z1 (Y6 c1 c5 c7 c9 (zno .i64 h13) h15) ?_
     rcases zit H12 with ⟨c17, H18⟩ | ⟨c17, H18⟩
     ·obtain ⟨l, b19, H20⟩ := zbi H18
      obtain ⟨h21, h22, h23, h24⟩ := slc_inv b19
      have h25 : 1 ≤ (List.length t7) := by omega
      have h26 : (List.length t7) ≤ (List.length t7) := by omega
      have h27 : List.drop (1) (List.map eS t7) = List.map eS l := by rw [h24]; simp []
      try simp only [Int.toNat_natCast] at h25 h26 h27
      obtain ⟨t29, b28, H29⟩ := zbi H20
      refine Z1 (Y2 (Y6 c1 c5 c7 c9 (zno .i64 h13) h15) (Y6 c17 (zno .i64 h21) h25 h26 h27 (chk_map (n := 1) (f := eS) (fun _ => rfl) t7))) ?_
      refine ZA0 (slices_ContainsFunc_string__acls_Path_c1_ok b28) ?_
      refine Z1 (Y2 (Y6 c1 c5 c7 c9 (zno .i64 h13) h15) (Y6 c17 (zno .i64 h21) h25 h26 h27 (chk_map (n := 1) (f := eS) (fun _ => rfl) t7))) ?_
      obtain rfl := Zi H29
      exact ZE0
     ·refine Z1 (Y2 (Y6 c1 c5 c7 c9 (zno .i64 h13) h15) c17) ?_
      obtain rfl := Zi H18
      exact ZE0
def bytealg_LastIndexByteString_L1 (n : Nat) (s : ByteArray) (c2 : Int) : Nat → Int → Option ((Unit) ⊕ Int)
 | 0, _ => none
 | c + 1, i =>
  (if (decide (0 ≤ i)) then
   (bidx s i).bind fun ch2 =>
   (if (ch2 == c2) then
    some (.inr i)
   else
    bytealg_LastIndexByteString_L1 n s c2 c (IntKind.i64.wrap (i - 1)))
  else
   some (.inl ()))

def bytealg_LastIndexByteString (n : Nat) (s : ByteArray) (c2 : Int) : Option Int :=
 (
  bytealg_LastIndexByteString_L1 n s c2 n (IntKind.i64.wrap ((s.size : Int) - 1)) : Option ((Unit) ⊕ Int)).bind fun
  | .inl _ =>
   some (-1)
  | .inr r => some r
theorem bytealg_LastIndexByteString_ok {n : Nat} {s : ByteArray} {c2 : Int} {r : Int} (H : bytealg_LastIndexByteString n s c2 = some r) : PureOK Tryz.prog 94 [D.v (.string s), D.v (.int .u8 c2)] (D.v (.int .i64 r)) true := by
 unfold bytealg_LastIndexByteString at H
 refine ZP tab_ok fol (rs := #[.tmp 4]) Tryz.func94 ?_
 refine zsq (ZT 1 ?_)
 refine Z0 ?_
 refine zsq (zsq ?_)
 refine ZT 1 ?_
 refine Z0 ?_
 obtain ⟨e_, E1, H2⟩ := zbi H
 refine zjn (α := { y : Unit // e_ = .inl y }) (fun | ⟨_, _⟩ => ⟨noFr, noHp, 0⟩) ?_ ?_
 ·refine zbk ?_
  refine zlp (α := { q : Nat × Int // bytealg_LastIndexByteString_L1 n s c2 q.1 q.2 = some e_ }) (fun | ⟨⟨c, i⟩, _⟩ => ⟨upd 0 (.v (.string s)) (upd 1 (.v (.int .u8 c2)) (upd 5 (.v (.int .i64 i)) noFr)), noHp, 0⟩) (fun q => q.1.1) ⟨(n, (IntKind.i64.wrap ((s.size : Int) - 1))), E1⟩ ?_ ?_
  ·exact ZR []
  ·rintro ⟨⟨c, i⟩, L3⟩
   rcases c with _ | c
   ·exact Zx L3
   ·unfold bytealg_LastIndexByteString_L1 at L3
    try dsimp only at L3
    refine ZT 1 ?_
    refine Z0 ?_
    rcases zit L3 with ⟨c13, H14⟩ | ⟨c13, H14⟩
    ·obtain ⟨ch2, b15, H16⟩ := zbi H14
     obtain ⟨h17, by_2, h18, h19⟩ := zbx b15
     try simp only [Int.reduceToNat, Int.toNat_natCast] at h18
     refine Z1 (Y4 c13 (zno .i64 h17) h18 h19.symm) ?_
     rcases zit H16 with ⟨c20, H21⟩ | ⟨c20, H21⟩
     ·refine Z1 (Y5 c13 (zno .i64 h17) h18 h19.symm c20) ?_
      obtain rfl := Zi H21
      obtain rfl := Zi H2
      exact ZE0
     ·refine Z1 (Y5 c13 (zno .i64 h17) h18 h19.symm c20) ?_
      exact ⟨⟨(c, (IntKind.i64.wrap (i - 1))), H21⟩, ZR [], Nat.lt_succ_self _⟩
    ·refine Z1 c13 ?_
     obtain rfl := Zi H14
     exact ⟨⟨(), rfl⟩, ZR []⟩
 ·rintro ⟨_, he22⟩
  obtain rfl := he22.symm
  try dsimp only at H2
  refine ZT 1 ?_
  refine Z0 ?_
  obtain rfl := Zi H2
  exact ZE0
def bytealg_hashStrRev_string_L1 (n : Nat) (sep : ByteArray) : Nat → (Int × Int) → Option (Int)
 | 0, _ => none
 | c + 1, (hash, i) =>
  (if (decide (0 ≤ i)) then
   (bidx sep i).bind fun ch2 =>
   bytealg_hashStrRev_string_L1 n sep c ((IntKind.u32.wrap ((IntKind.u32.wrap (hash * 16777619)) + (IntKind.u32.wrap ch2))), (IntKind.i64.wrap (i - 1)))
  else
   some hash)

def bytealg_hashStrRev_string_L2 (n : Nat) : Nat → (Int × Int × Int) → Option (Int)
 | 0, _ => none
 | c + 1, (pow, sq, i3) =>
  (if (decide (0 < i3)) then
   (if ((IntKind.i64.wrap (an i3 1 : Int)) != 0) then
    bytealg_hashStrRev_string_L2 n c ((IntKind.u32.wrap (pow * sq)), (IntKind.u32.wrap (sq * sq)), (sh i3 1))
   else
    bytealg_hashStrRev_string_L2 n c (pow, (IntKind.u32.wrap (sq * sq)), (sh i3 1)))
  else
   some pow)

def bytealg_hashStrRev_string (n : Nat) (sep : ByteArray) : Option (Int × Int) :=
 (
  bytealg_hashStrRev_string_L1 n sep n (0, (IntKind.i64.wrap ((sep.size : Int) - 1))) : Option (Int)).bind fun hash3 =>
 (
  bytealg_hashStrRev_string_L2 n n (1, 16777619, (sep.size : Int)) : Option (Int)).bind fun pow3 =>
 some (hash3, pow3)
theorem bytealg_hashStrRev_string_ok {n : Nat} {sep : ByteArray} {r : Int × Int} (H : bytealg_hashStrRev_string n sep = some r) : PureOK Tryz.prog 115 [D.v (.string sep)] (D.tu [D.v (.int .u32 r.1), D.v (.int .u32 r.2)]) true := by
 unfold bytealg_hashStrRev_string at H
 refine ZP tab_ok fol (rs := #[.tmp 2, .tmp 3]) Tryz.func115 ?_
 refine zsq (ZT 1 ?_)
 refine Z0 ?_
 refine zsq (ZT 1 ?_)
 refine Z0 ?_
 refine zsq (zsq ?_)
 refine ZT 1 ?_
 refine Z0 ?_
 obtain ⟨e_, E1, H2⟩ := zbi H
 refine zjn (α := { y : Int // e_ = y }) (fun | ⟨hash3, _⟩ => ⟨upd 0 (.v (.string sep)) (upd 4 (.v (.int .u32 hash3)) noFr), noHp, 0⟩) ?_ ?_
 ·refine zbk ?_
  refine zlp (α := { q : Nat × (Int × Int) // bytealg_hashStrRev_string_L1 n sep q.1 q.2 = some e_ }) (fun | ⟨⟨c, ⟨hash, i⟩⟩, _⟩ => ⟨upd 0 (.v (.string sep)) (upd 4 (.v (.int .u32 hash)) (upd 5 (.v (.int .i64 i)) noFr)), noHp, 0⟩) (fun q => q.1.1) ⟨(n, (0, (IntKind.i64.wrap ((sep.size : Int) - 1)))), E1⟩ ?_ ?_
  ·exact ZR []
  ·rintro ⟨⟨c, ⟨hash, i⟩⟩, L3⟩
   rcases c with _ | c
   ·exact Zx L3
   ·unfold bytealg_hashStrRev_string_L1 at L3
    try dsimp only at L3
    refine ZT 1 ?_
    refine Z0 ?_
    rcases zit L3 with ⟨c11, H12⟩ | ⟨c11, H12⟩
    ·obtain ⟨ch2, b13, H14⟩ := zbi H12
     obtain ⟨h15, by_2, h16, h17⟩ := zbx b13
     try simp only [Int.reduceToNat, Int.toNat_natCast] at h16
     refine Z1 (Y4 c11 (zno .i64 h15) h16 h17.symm) ?_
     exact ⟨⟨(c, ((IntKind.u32.wrap ((IntKind.u32.wrap (hash * 16777619)) + (IntKind.u32.wrap ch2))), (IntKind.i64.wrap (i - 1)))), H14⟩, ZR [], Nat.lt_succ_self _⟩
    ·refine Z1 c11 ?_
     obtain rfl := Zi H12
     exact ⟨⟨hash, rfl⟩, ZR []⟩
 ·rintro ⟨hash3, he30⟩
  obtain rfl := he30.symm
  try dsimp only at H2
  refine zsq (ZT 1 ?_)
  refine Z0 ?_
  refine zsq (zsq ?_)
  refine ZT 1 ?_
  refine Z0 ?_
  obtain ⟨e_2, E18, H19⟩ := zbi H2
  refine zjn (α := { y : Int // e_2 = y }) (fun | ⟨pow3, _⟩ => ⟨upd 4 (.v (.int .u32 hash3)) (upd 6 (.v (.int .u32 pow3)) noFr), noHp, 0⟩) ?_ ?_
  ·refine zbk ?_
   refine zlp (α := { q : Nat × (Int × Int × Int) // bytealg_hashStrRev_string_L2 n q.1 q.2 = some e_2 }) (fun | ⟨⟨c, ⟨pow, sq, i3⟩⟩, _⟩ => ⟨upd 4 (.v (.int .u32 hash3)) (upd 6 (.v (.int .u32 pow)) (upd 7 (.v (.int .u32 sq)) (upd 8 (.v (.int .i64 i3)) noFr))), noHp, 0⟩) (fun q => q.1.1) ⟨(n, (1, 16777619, (sep.size : Int))), E18⟩ ?_ ?_
   ·exact ZR []
   ·rintro ⟨⟨c, ⟨pow, sq, i3⟩⟩, L20⟩
    rcases c with _ | c
    ·exact Zx L20
    ·unfold bytealg_hashStrRev_string_L2 at L20
     try dsimp only at L20
     refine ZT 1 ?_
     refine Z0 ?_
     rcases zit L20 with ⟨c25, H26⟩ | ⟨c25, H26⟩
     ·refine Z1 c25 ?_
      rcases zit H26 with ⟨c27, H28⟩ | ⟨c27, H28⟩
      ·refine Z1 (Y2 c25 c27) ?_
       exact ⟨⟨(c, ((IntKind.u32.wrap (pow * sq)), (IntKind.u32.wrap (sq * sq)), (sh i3 1))), H28⟩, ZR [], Nat.lt_succ_self _⟩
      ·refine Z1 (Y2 c25 c27) ?_
       exact ⟨⟨(c, (pow, (IntKind.u32.wrap (sq * sq)), (sh i3 1))), H28⟩, ZR [], Nat.lt_succ_self _⟩
     ·refine Z1 c25 ?_
      obtain rfl := Zi H26
      exact ⟨⟨pow, rfl⟩, ZR []⟩
  ·rintro ⟨pow3, he29⟩
   obtain rfl := he29.symm
   try dsimp only at H19
   refine ZT 1 ?_
   refine Z0 ?_
   obtain rfl := Zi H19
   exact ZE0
def bytealg_LastIndexRabinKarp_string_L1 (n : Nat) (t0 : ByteArray) (t1 : ByteArray) : Nat → (Int × Int) → Option (Int)
 | 0, _ => none
 | c + 1, (t9, t10) =>
  (if (decide ((IntKind.i64.wrap ((t0.size : Int) - (t1.size : Int))) ≤ t10)) then
   (bidx t0 t10).bind fun ch2 =>
   bytealg_LastIndexRabinKarp_string_L1 n t0 t1 c ((IntKind.u32.wrap ((IntKind.u32.wrap (t9 * 16777619)) + (IntKind.u32.wrap ch2))), (IntKind.i64.wrap (t10 - 1)))
  else
   some t9)

def bytealg_LastIndexRabinKarp_string_L2 (n : Nat) (t0 : ByteArray) (t1 : ByteArray) (t14 : Int × Int) : Nat → (Int × Int) → Option ((Unit) ⊕ Int)
 | 0, _ => none
 | c + 1, (t94, t11) =>
  (if (decide (0 ≤ t11)) then
   (bidx t0 t11).bind fun ch5 =>
   (bidx t0 (IntKind.i64.wrap (t11 + (t1.size : Int)))).bind fun ch6 =>
   (if ((IntKind.u32.wrap ((IntKind.u32.wrap ((IntKind.u32.wrap (t94 * 16777619)) + (IntKind.u32.wrap ch5))) - (IntKind.u32.wrap (t14.2 * (IntKind.u32.wrap ch6))))) == t14.1) then
    (bslc t0 t11 (IntKind.i64.wrap (t11 + (t1.size : Int)))).bind fun s3 =>
    (if (s3.toList == t1.toList) then
     some (.inr t11)
    else
     bytealg_LastIndexRabinKarp_string_L2 n t0 t1 t14 c ((IntKind.u32.wrap ((IntKind.u32.wrap ((IntKind.u32.wrap (t94 * 16777619)) + (IntKind.u32.wrap ch5))) - (IntKind.u32.wrap (t14.2 * (IntKind.u32.wrap ch6))))), (IntKind.i64.wrap (t11 - 1))))
   else
    bytealg_LastIndexRabinKarp_string_L2 n t0 t1 t14 c ((IntKind.u32.wrap ((IntKind.u32.wrap ((IntKind.u32.wrap (t94 * 16777619)) + (IntKind.u32.wrap ch5))) - (IntKind.u32.wrap (t14.2 * (IntKind.u32.wrap ch6))))), (IntKind.i64.wrap (t11 - 1))))
  else
   some (.inl ()))

def bytealg_LastIndexRabinKarp_string (n : Nat) (t0 : ByteArray) (t1 : ByteArray) : Option Int :=
 (bytealg_hashStrRev_string n t1).bind fun t14 =>
 (
  bytealg_LastIndexRabinKarp_string_L1 n t0 t1 n (0, (IntKind.i64.wrap ((t0.size : Int) - 1))) : Option (Int)).bind fun t93 =>
 (
  (if (t93 == t14.1) then
   (bslc t0 (IntKind.i64.wrap ((t0.size : Int) - (t1.size : Int))) (t0.size : Int)).bind fun s =>
   some (s.toList == t1.toList)
  else
   some false) : Option (Bool)).bind fun t47 =>
 (if t47 then
  some (IntKind.i64.wrap ((t0.size : Int) - (t1.size : Int)))
 else
  (
   bytealg_LastIndexRabinKarp_string_L2 n t0 t1 t14 n (t93, (IntKind.i64.wrap ((IntKind.i64.wrap ((t0.size : Int) - (t1.size : Int))) - 1))) : Option ((Unit) ⊕ Int)).bind fun
   | .inl _ =>
    some (-1)
   | .inr r => some r)
theorem bytealg_LastIndexRabinKarp_string_ok {n : Nat} {t0 : ByteArray} {t1 : ByteArray} {r : Int} (H : bytealg_LastIndexRabinKarp_string n t0 t1 = some r) : PureOK Tryz.prog 95 [D.v (.string t0), D.v (.string t1)] (D.v (.int .i64 r)) true := by
 unfold bytealg_LastIndexRabinKarp_string at H
 refine ZP tab_ok fol (rs := #[.tmp 4]) Tryz.func95 ?_
 refine zsq (ZT 1 ?_)
 refine Z0 ?_
 refine zsq (ZT 1 ?_)
 obtain ⟨t14, b1, H2⟩ := zbi H
 refine Z0 ?_
 refine ZC0 (bytealg_hashStrRev_string_ok b1) ?_
 refine Z0 ?_
 refine zsq (ZT 1 ?_)
 refine Z0 ?_
 refine zsq (ZT 1 ?_)
 refine Z0 ?_
 refine zsq (ZT 1 ?_)
 refine Z0 ?_
 refine zsq (zsq ?_)
 refine ZT 1 ?_
 refine Z0 ?_
 obtain ⟨e_, E3, H4⟩ := zbi H2
 refine zjn (α := { y : Int // e_ = y }) (fun | ⟨t93, _⟩ => ⟨upd 0 (.v (.string t0)) (upd 1 (.v (.string t1)) (upd 5 (.v (.int .u32 t14.1)) (upd 6 (.v (.int .u32 t14.2)) (upd 7 (.v (.int .i64 (t1.size : Int))) (upd 8 (.v (.int .i64 (IntKind.i64.wrap ((t0.size : Int) - (t1.size : Int))))) (upd 9 (.v (.int .u32 t93)) noFr)))))), noHp, 0⟩) ?_ ?_
 ·refine zbk ?_
  refine zlp (α := { q : Nat × (Int × Int) // bytealg_LastIndexRabinKarp_string_L1 n t0 t1 q.1 q.2 = some e_ }) (fun | ⟨⟨c, ⟨t9, t10⟩⟩, _⟩ => ⟨upd 0 (.v (.string t0)) (upd 1 (.v (.string t1)) (upd 5 (.v (.int .u32 t14.1)) (upd 6 (.v (.int .u32 t14.2)) (upd 7 (.v (.int .i64 (t1.size : Int))) (upd 8 (.v (.int .i64 (IntKind.i64.wrap ((t0.size : Int) - (t1.size : Int))))) (upd 9 (.v (.int .u32 t9)) (upd 10 (.v (.int .i64 t10)) noFr))))))), noHp, 0⟩) (fun q => q.1.1) ⟨(n, (0, (IntKind.i64.wrap ((t0.size : Int) - 1)))), E3⟩ ?_ ?_
  ·exact ZR []
  ·rintro ⟨⟨c, ⟨t9, t10⟩⟩, L5⟩
   rcases c with _ | c
   ·exact Zx L5
   ·unfold bytealg_LastIndexRabinKarp_string_L1 at L5
    try dsimp only at L5
    refine ZT 1 ?_
    refine Z0 ?_
    rcases zit L5 with ⟨c13, H14⟩ | ⟨c13, H14⟩
    ·obtain ⟨ch2, b15, H16⟩ := zbi H14
     obtain ⟨h17, by_2, h18, h19⟩ := zbx b15
     try simp only [Int.reduceToNat, Int.toNat_natCast] at h18
     refine Z1 (Y4 c13 (zno .i64 h17) h18 h19.symm) ?_
     exact ⟨⟨(c, ((IntKind.u32.wrap ((IntKind.u32.wrap (t9 * 16777619)) + (IntKind.u32.wrap ch2))), (IntKind.i64.wrap (t10 - 1)))), H16⟩, ZR [], Nat.lt_succ_self _⟩
    ·refine Z1 c13 ?_
     obtain rfl := Zi H14
     exact ⟨⟨t9, rfl⟩, ZR []⟩
 ·rintro ⟨t93, he90⟩
  obtain rfl := he90.symm
  try dsimp only at H4
  refine zsq (zsq ?_)
  obtain ⟨e_2, E20, H21⟩ := zbi H4
  refine zjn (α := { y : Bool // e_2 = y }) (fun | ⟨t47, _⟩ => ⟨upd 0 (.v (.string t0)) (upd 1 (.v (.string t1)) (upd 5 (.v (.int .u32 t14.1)) (upd 6 (.v (.int .u32 t14.2)) (upd 7 (.v (.int .i64 (t1.size : Int))) (upd 8 (.v (.int .i64 (IntKind.i64.wrap ((t0.size : Int) - (t1.size : Int))))) (upd 9 (.v (.int .u32 t93)) (upd 47 (.v (.bool t47)) noFr))))))), noHp, 0⟩) ?_ ?_
  ·refine ZT 1 ?_
   refine Z0 ?_
   rcases zit E20 with ⟨c22, H23⟩ | ⟨c22, H23⟩
   ·obtain ⟨s, b24, H25⟩ := zbi H23
    obtain ⟨h26, h27, h28, h29⟩ := zbs b24
    have h30 : Int.toNat (IntKind.i64.wrap ((t0.size : Int) - (t1.size : Int))) ≤ t0.size := by omega
    have h31 : t0.size ≤ t0.size := by omega
    have h32 : ByteArray.extract t0 (Int.toNat (IntKind.i64.wrap ((t0.size : Int) - (t1.size : Int)))) (t0.size) = s := h29.symm
    try simp only [Int.toNat_natCast] at h30 h31 h32
    refine Z1 (Y5 c22 (zno .i64 h26) h30 h31 h32) ?_
    obtain rfl := Zi H25
    exact ⟨⟨(s.toList == t1.toList), rfl⟩, ZR []⟩
   ·refine Z1 c22 ?_
    obtain rfl := Zi H23
    exact ⟨⟨false, rfl⟩, ZR []⟩
  ·rintro ⟨t47, he89⟩
   obtain rfl := he89.symm
   try dsimp only at H21
   refine ZT 1 ?_
   refine Z0 ?_
   rcases zit H21 with ⟨c33, H34⟩ | ⟨c33, H34⟩
   ·refine Z1 c33 ?_
    obtain rfl := Zi H34
    exact ZE0
   ·refine Z1 c33 ?_
    refine zsq (zsq ?_)
    refine ZT 1 ?_
    refine Z1 c33 ?_
    obtain ⟨e_3, E35, H36⟩ := zbi H34
    refine zjn (α := { y : Unit // e_3 = .inl y }) (fun | ⟨_, _⟩ => ⟨noFr, noHp, 0⟩) ?_ ?_
    ·refine zbk ?_
     refine zlp (α := { q : Nat × (Int × Int) // bytealg_LastIndexRabinKarp_string_L2 n t0 t1 t14 q.1 q.2 = some e_3 }) (fun | ⟨⟨c, ⟨t94, t11⟩⟩, _⟩ => ⟨upd 0 (.v (.string t0)) (upd 1 (.v (.string t1)) (upd 5 (.v (.int .u32 t14.1)) (upd 6 (.v (.int .u32 t14.2)) (upd 7 (.v (.int .i64 (t1.size : Int))) (upd 9 (.v (.int .u32 t94)) (upd 11 (.v (.int .i64 t11)) noFr)))))), noHp, 0⟩) (fun q => q.1.1) ⟨(n, (t93, (IntKind.i64.wrap ((IntKind.i64.wrap ((t0.size : Int) - (t1.size : Int))) - 1)))), E35⟩ ?_ ?_
     ·exact ZR []
     ·rintro ⟨⟨c, ⟨t94, t11⟩⟩, L37⟩
      rcases c with _ | c
      ·exact Zx L37
      ·unfold bytealg_LastIndexRabinKarp_string_L2 at L37
       try dsimp only at L37
       refine ZT 1 ?_
       refine Z0 ?_
       rcases zit L37 with ⟨c63, H64⟩ | ⟨c63, H64⟩
       ·obtain ⟨ch5, b65, H66⟩ := zbi H64
        obtain ⟨h67, by_5, h68, h69⟩ := zbx b65
        try simp only [Int.reduceToNat, Int.toNat_natCast] at h68
        obtain ⟨ch6, b70, H71⟩ := zbi H66
        obtain ⟨h72, by_6, h73, h74⟩ := zbx b70
        try simp only [Int.reduceToNat, Int.toNat_natCast] at h73
        refine Z1 (Y2 (Y6 c63 (zno .i64 h67) h68 h69.symm (zno .i64 h72) h73) h74.symm) ?_
        rcases zit H71 with ⟨c75, H76⟩ | ⟨c75, H76⟩
        ·obtain ⟨s3, b77, H78⟩ := zbi H76
         obtain ⟨h79, h80, h81, h82⟩ := zbs b77
         have h83 : Int.toNat t11 ≤ Int.toNat (IntKind.i64.wrap (t11 + (t1.size : Int))) := by omega
         have h84 : Int.toNat (IntKind.i64.wrap (t11 + (t1.size : Int))) ≤ t0.size := by omega
         have h85 : ByteArray.extract t0 (Int.toNat t11) (Int.toNat (IntKind.i64.wrap (t11 + (t1.size : Int)))) = s3 := h82.symm
         try simp only [Int.toNat_natCast] at h83 h84 h85
         refine Z1 (Y3 (Y6 c63 (zno .i64 h67) h68 h69.symm (zno .i64 h72) h73) (Y6 h74.symm c75 (zno .i64 h79) (zno .i64 (Int.le_trans h79 h80)) h83 h84) h85) ?_
         rcases zit H78 with ⟨c86, H87⟩ | ⟨c86, H87⟩
         ·refine Z1 (Y3 (Y6 c63 (zno .i64 h67) h68 h69.symm (zno .i64 h72) h73) (Y6 h74.symm c75 (zno .i64 h79) (zno .i64 (Int.le_trans h79 h80)) h83 h84) (Y2 h85 c86)) ?_
          obtain rfl := Zi H87
          obtain rfl := Zi H36
          exact ZE0
         ·refine Z1 (Y3 (Y6 c63 (zno .i64 h67) h68 h69.symm (zno .i64 h72) h73) (Y6 h74.symm c75 (zno .i64 h79) (zno .i64 (Int.le_trans h79 h80)) h83 h84) (Y2 h85 c86)) ?_
          exact ⟨⟨(c, ((IntKind.u32.wrap ((IntKind.u32.wrap ((IntKind.u32.wrap (t94 * 16777619)) + (IntKind.u32.wrap ch5))) - (IntKind.u32.wrap (t14.2 * (IntKind.u32.wrap ch6))))), (IntKind.i64.wrap (t11 - 1)))), H87⟩, ZR [], Nat.lt_succ_self _⟩
        ·refine Z1 (Y2 (Y6 c63 (zno .i64 h67) h68 h69.symm (zno .i64 h72) h73) (Y2 h74.symm c75)) ?_
         exact ⟨⟨(c, ((IntKind.u32.wrap ((IntKind.u32.wrap ((IntKind.u32.wrap (t94 * 16777619)) + (IntKind.u32.wrap ch5))) - (IntKind.u32.wrap (t14.2 * (IntKind.u32.wrap ch6))))), (IntKind.i64.wrap (t11 - 1)))), H76⟩, ZR [], Nat.lt_succ_self _⟩
       ·refine Z1 c63 ?_
        obtain rfl := Zi H64
        exact ⟨⟨(), rfl⟩, ZR []⟩
    ·rintro ⟨_, he88⟩
     obtain rfl := he88.symm
     try dsimp only at H36
     refine ZT 1 ?_
     refine Z0 ?_
     obtain rfl := Zi H36
     exact ZE0
def strings_LastIndex (n : Nat) (s : ByteArray) (substr : ByteArray) : Option Int :=
 (if ((substr.size : Int) == 0) then
  some (s.size : Int)
 else
  (if ((substr.size : Int) == 1) then
   (bidx substr 0).bind fun ch =>
   (bytealg_LastIndexByteString n s ch).bind fun t19 =>
   some t19
  else
   (if ((substr.size : Int) == (s.size : Int)) then
    (if (substr.toList == s.toList) then
     some 0
    else
     some (-1))
   else
    (if (decide ((s.size : Int) < (substr.size : Int))) then
     some (-1)
    else
     (bytealg_LastIndexRabinKarp_string n s substr).bind fun t35 =>
     some t35))))
theorem strings_LastIndex_ok {n : Nat} {s : ByteArray} {substr : ByteArray} {r : Int} (H : strings_LastIndex n s substr = some r) : PureOK Tryz.prog 68 [D.v (.string s), D.v (.string substr)] (D.v (.int .i64 r)) true := by
 unfold strings_LastIndex at H
 refine ZP tab_ok fol (rs := #[.tmp 4]) Tryz.func68 ?_
 refine ZT 1 ?_
 refine Z0 ?_
 rcases zit H with ⟨c1, H2⟩ | ⟨c1, H2⟩
 ·refine Z1 c1 ?_
  obtain rfl := Zi H2
  exact ZE0
 ·refine Z1 c1 ?_
  rcases zit H2 with ⟨c3, H4⟩ | ⟨c3, H4⟩
  ·obtain ⟨ch, b5, H6⟩ := zbi H4
   obtain ⟨h7, by_, h8, h9⟩ := zbx b5
   try simp only [Int.reduceToNat] at h8
   obtain ⟨t19, b10, H11⟩ := zbi H6
   refine Z1 (Y5 c1 c3 (zno .i64 h7) h8 h9.symm) ?_
   refine ZC0 (bytealg_LastIndexByteString_ok b10) ?_
   refine Z1 (Y5 c1 c3 (zno .i64 h7) h8 h9.symm) ?_
   obtain rfl := Zi H11
   exact ZE0
  ·refine Z1 (Y2 c1 c3) ?_
   rcases zit H4 with ⟨c12, H13⟩ | ⟨c12, H13⟩
   ·refine Z1 (Y3 c1 c3 c12) ?_
    rcases zit H13 with ⟨c14, H15⟩ | ⟨c14, H15⟩
    ·refine Z1 (Y4 c1 c3 c12 c14) ?_
     obtain rfl := Zi H15
     exact ZE0
    ·refine Z1 (Y4 c1 c3 c12 c14) ?_
     obtain rfl := Zi H15
     exact ZE0
   ·refine Z1 (Y3 c1 c3 c12) ?_
    rcases zit H13 with ⟨c16, H17⟩ | ⟨c16, H17⟩
    ·refine Z1 (Y4 c1 c3 c12 c16) ?_
     obtain rfl := Zi H17
     exact ZE0
    ·obtain ⟨t35, b18, H19⟩ := zbi H17
     refine Z1 (Y4 c1 c3 c12 c16) ?_
     refine ZC0 (bytealg_LastIndexRabinKarp_string_ok b18) ?_
     refine Z1 (Y4 c1 c3 c12 c16) ?_
     obtain rfl := Zi H19
     exact ZE0
def acls_Parent (n : Nat) (path : ByteArray) : Option ByteArray :=
 (if (path.toList == ({ data := #[47] } : ByteArray).toList) then
  some ({ data := #[] })
 else
  (acls_Path n path).bind fun t7 =>
  (if t7 then
   (strings_LastIndex n path ({ data := #[47] })).bind fun t12 =>
   (bslc path 0 (if t12 < 1 then 1 else t12)).bind fun s =>
   some s
  else
   some ({ data := #[] })))
theorem acls_Parent_ok {n : Nat} {path : ByteArray} {r : ByteArray} (H : acls_Parent n path = some r) : PureOK Tryz.prog 38 [D.v (.string path)] (D.v (.string r)) true := by
 unfold acls_Parent at H
 refine ZP tab_ok fol (rs := #[.tmp 2]) Tryz.func38 ?_
 refine ZT 1 ?_
 refine Z0 ?_
 rcases zit H with ⟨c1, H2⟩ | ⟨c1, H2⟩
 ·refine Z1 c1 ?_
  obtain rfl := Zi H2
  exact ZE0
 ·obtain ⟨t7, b3, H4⟩ := zbi H2
  refine Z1 c1 ?_
  refine ZC0 (acls_Path_ok b3) ?_
  refine Z1 c1 ?_
  rcases zit H4 with ⟨c5, H6⟩ | ⟨c5, H6⟩
  ·obtain ⟨t12, b7, H8⟩ := zbi H6
   refine Z1 (Y2 c1 c5) ?_
   refine ZC0 (strings_LastIndex_ok b7) ?_
   obtain ⟨s, b9, H10⟩ := zbi H8
   obtain ⟨h11, h12, h13, h14⟩ := zbs b9
   have h15 : 0 ≤ Int.toNat (if t12 < 1 then 1 else t12) := by omega
   have h16 : Int.toNat (if t12 < 1 then 1 else t12) ≤ path.size := by omega
   have h17 : ByteArray.extract path (0) (Int.toNat (if t12 < 1 then 1 else t12)) = s := h14.symm
   try simp only [Int.toNat_natCast] at h15 h16 h17
   refine Z1 (Y6 c1 c5 (zno .i64 (Int.le_trans h11 h12)) h15 h16 h17) ?_
   obtain rfl := Zi H10
   exact ZE0
  ·refine Z1 (Y2 c1 c5) ?_
   obtain rfl := Zi H6
   exact ZE0
def perm_May_L1 (n : Nat) (l : List GFile) (user : ByteArray) : Nat → ByteArray → Option ((Unit) ⊕ Bool)
 | 0, _ => none
 | c + 1, path2 =>
  (if (path2.toList == ({ data := #[47] } : ByteArray).toList) then
   some (.inl ())
  else
   (acls_Parent n path2).bind fun t182 =>
   (if (t182.toList == ({ data := #[] } : ByteArray).toList) then
    some (.inr false)
   else
    (perm_Can n l user t182 1).bind fun t252 =>
    (if t252 then
     perm_May_L1 n l user c t182
    else
     some (.inr false))))

def perm_May (n : Nat) (l : List GFile) (user : ByteArray) (path : ByteArray) (bit : Int) : Option Bool :=
 (perm_Can n l user path bit).bind fun t13 =>
 (if t13 then
  (
   perm_May_L1 n l user n path : Option ((Unit) ⊕ Bool)).bind fun
   | .inl _ =>
    some true
   | .inr r => some r
 else
  some false)
theorem perm_May_ok {n : Nat} {l : List GFile} {user : ByteArray} {path : ByteArray} {bit : Int} {r : Bool} (H : perm_May n l user path bit = some r) : PureOK Tryz.prog 12 [D.sl (List.map eGFile l), D.v (.string user), D.v (.string path), D.v (.int .i64 bit)] (D.v (.bool r)) true := by
 unfold perm_May at H
 refine ZP tab_ok fol (rs := #[.tmp 8]) Tryz.func12 ?_
 refine zsq (ZT 1 ?_)
 refine Z0 ?_
 refine zsq (ZT 1 ?_)
 obtain ⟨t13, b1, H2⟩ := zbi H
 refine Z0 ?_
 refine ZC0 (perm_Can_ok b1) ?_
 refine Z0 ?_
 rcases zit H2 with ⟨c3, H4⟩ | ⟨c3, H4⟩
 ·refine Z1 c3 ?_
  refine zsq ?_
  obtain ⟨e_, E5, H6⟩ := zbi H4
  refine zjn (α := { y : Unit // e_ = .inl y }) (fun | ⟨_, _⟩ => ⟨noFr, noHp, 0⟩) ?_ ?_
  ·refine zbk ?_
   refine zlp (α := { q : Nat × ByteArray // perm_May_L1 n l user q.1 q.2 = some e_ }) (fun | ⟨⟨c, path2⟩, _⟩ => ⟨upd 0 (.d (.sl (List.map eGFile l)) true) (upd 1 (.v (.string user)) (upd 2 (.v (.string path2)) noFr)), noHp, 0⟩) (fun q => q.1.1) ⟨(n, path), E5⟩ ?_ ?_
   ·exact ZR []
   ·rintro ⟨⟨c, path2⟩, L7⟩
    rcases c with _ | c
    ·exact Zx L7
    ·unfold perm_May_L1 at L7
     try dsimp only at L7
     refine ZT 1 ?_
     refine Z0 ?_
     rcases zit L7 with ⟨c18, H19⟩ | ⟨c18, H19⟩
     ·refine Z1 c18 ?_
      obtain rfl := Zi H19
      exact ⟨⟨(), rfl⟩, ZR []⟩
     ·obtain ⟨t182, b20, H21⟩ := zbi H19
      refine Z1 c18 ?_
      refine ZC0 (acls_Parent_ok b20) ?_
      refine Z1 c18 ?_
      rcases zit H21 with ⟨c22, H23⟩ | ⟨c22, H23⟩
      ·refine Z1 (Y2 c18 c22) ?_
       obtain rfl := Zi H23
       obtain rfl := Zi H6
       exact ZE0
      ·obtain ⟨t252, b24, H25⟩ := zbi H23
       refine Z1 (Y2 c18 c22) ?_
       refine ZC0 (perm_Can_ok b24) ?_
       refine Z1 (Y2 c18 c22) ?_
       rcases zit H25 with ⟨c26, H27⟩ | ⟨c26, H27⟩
       ·refine Z1 (Y3 c18 c22 c26) ?_
        exact ⟨⟨(c, t182), H27⟩, ZR [], Nat.lt_succ_self _⟩
       ·refine Z1 (Y3 c18 c22 c26) ?_
        obtain rfl := Zi H27
        obtain rfl := Zi H6
        exact ZE0
  ·rintro ⟨_, he28⟩
   obtain rfl := he28.symm
   try dsimp only at H6
   refine ZT 1 ?_
   refine Z0 ?_
   obtain rfl := Zi H6
   exact ZE0
 ·refine Z1 c3 ?_
  obtain rfl := Zi H4
  exact ZE0
def ref17_May_L1 (n : Nat) (l : List GFile) (user : ByteArray) : Nat → ByteArray → Option ((Unit) ⊕ Bool)
 | 0, _ => none
 | c + 1, p =>
  (if (p.toList == ({ data := #[] } : ByteArray).toList) then
   some (.inl ())
  else
   (ref17_Can n l user p 1).bind fun t252 =>
   (if t252 then
    (ref17_Parent n p).bind fun t212 =>
    ref17_May_L1 n l user c t212
   else
    some (.inr false)))

def ref17_May (n : Nat) (l : List GFile) (user : ByteArray) (path : ByteArray) (bit : Int) : Option Bool :=
 (ref17_Can n l user path bit).bind fun t14 =>
 (if t14 then
  (ref17_Parent n path).bind fun t17 =>
  (
   ref17_May_L1 n l user n t17 : Option ((Unit) ⊕ Bool)).bind fun
   | .inl _ =>
    some true
   | .inr r => some r
 else
  some false)
def law20_Who (_ : Nat) (n_ : Int) : Option ByteArray :=
 (idx ([{ data := #[117] }, { data := #[118] }, { data := #[119] }, { data := #[120] }, { data := #[117] }, { data := #[118] }, { data := #[119] }, { data := #[107] }] : List ByteArray) (IntKind.i64.wrap (an n_ 7 : Int))).bind fun x =>
 some x
theorem law20_Who_ok {n : Nat} {n_ : Int} {r : ByteArray} (H : law20_Who n n_ = some r) : PureOK Tryz.prog 14 [D.v (.int .i64 n_)] (D.v (.string r)) true := by
 unfold law20_Who at H
 refine ZP tab_ok fol (rs := #[.tmp 2]) Tryz.func14 ?_
 refine ZT 1 ?_
 obtain ⟨x, b1, H2⟩ := zbi H
 obtain ⟨h3, h4⟩ := zix b1
 try simp only [Int.reduceToNat, Int.toNat_natCast] at h4
 have h5 := map_at eS h4
 simp only [List.map_cons, List.map_nil, eS] at h5
 have h6 := at_lt h4
 simp only [List.length_cons, List.length_nil, Nat.reduceAdd] at h6
 refine Z1 (Y3 (zno .i64 h3) h5 h6) ?_
 obtain rfl := Zi H2
 exact ZE0
def law20_Where (_ : Nat) (n_ : Int) : Option ByteArray :=
 (idx ([{ data := #[47] }, { data := #[47, 97] }, { data := #[47, 97, 47, 99] }, { data := #[47, 102] }, { data := #[47, 97, 47, 102] }, { data := #[47, 97, 47, 99, 47, 102] }, { data := #[47, 98] }, { data := #[47, 97, 102] }, { data := #[47, 98, 102] }, { data := #[47, 122] }] : List ByteArray) (Int.tmod (IntKind.i64.wrap (an n_ 255 : Int)) 10)).bind fun x =>
 some x
theorem law20_Where_ok {n : Nat} {n_ : Int} {r : ByteArray} (H : law20_Where n n_ = some r) : PureOK Tryz.prog 15 [D.v (.int .i64 n_)] (D.v (.string r)) true := by
 unfold law20_Where at H
 refine ZP tab_ok fol (rs := #[.tmp 2]) Tryz.func15 ?_
 refine ZT 1 ?_
 obtain ⟨x, b1, H2⟩ := zbi H
 obtain ⟨h3, h4⟩ := zix b1
 try simp only [Int.reduceToNat, Int.toNat_natCast] at h4
 have h5 := map_at eS h4
 simp only [List.map_cons, List.map_nil, eS] at h5
 have h6 := at_lt h4
 simp only [List.length_cons, List.length_nil, Nat.reduceAdd] at h6
 refine Z1 (Y3 (zno .i64 h3) h5 h6) ?_
 obtain rfl := Zi H2
 exact ZE0
end Go.Proofs.YtgmhbmcdlkajdaaGreatDoor.Ab
