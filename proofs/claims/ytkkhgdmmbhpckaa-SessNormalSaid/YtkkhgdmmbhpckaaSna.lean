/-
 Functions, read off the code.
-/
import Derived.Test.YtkkhgdmmbhpckaaSvb
namespace Go.Proofs.Ytkkhgdmmbhpckaa.Ab
open Go.RowKit
def ref13_Facts_L1 (n : Nat) (t0 : GRoles) : Nat → (List GFact × Int) → Option (List GFact)
 | 0, _ => none
 | c + 1, (t3, t4) =>
  (if (decide (t4 < (t0.users.length : Int))) then
   (idx t0.users t4).bind fun x2 =>
   (app t3 [(⟨1, x2, ByteArray.empty, ByteArray.empty, 0, [], 0⟩ : GFact)]).bind fun l =>
   ref13_Facts_L1 n t0 c (l, (IntKind.i64.wrap (t4 + 1)))
  else
   some t3)
def ref13_Facts_L2 (n : Nat) (t0 : GRoles) : Nat → (List GFact × Int) → Option (List GFact)
 | 0, _ => none
 | c + 1, (t34, t5) =>
  (if (decide (t5 < (t0.roles.length : Int))) then
   (idx t0.roles t5).bind fun x4 =>
   (app t34 [(⟨2, x4, ByteArray.empty, ByteArray.empty, 0, [], 0⟩ : GFact)]).bind fun l3 =>
   ref13_Facts_L2 n t0 c (l3, (IntKind.i64.wrap (t5 + 1)))
  else
   some t34)
def ref13_Facts_L3 (n : Nat) (t0 : GRoles) : Nat → (List GFact × Int) → Option (List GFact)
 | 0, _ => none
 | c + 1, (t37, t6) =>
  (if (decide (t6 < (t0.inherit.length : Int))) then
   (idx t0.inherit t6).bind fun x6 =>
   (app t37 [(⟨3, x6.a, x6.b, ByteArray.empty, 0, [], 0⟩ : GFact)]).bind fun l5 =>
   ref13_Facts_L3 n t0 c (l5, (IntKind.i64.wrap (t6 + 1)))
  else
   some t37)
def ref13_Facts_L4 (n : Nat) (t0 : GRoles) : Nat → (List GFact × Int) → Option (List GFact)
 | 0, _ => none
 | c + 1, (t310, t7) =>
  (if (decide (t7 < (t0.assign.length : Int))) then
   (idx t0.assign t7).bind fun x8 =>
   (app t310 [(⟨4, x8.a, x8.b, ByteArray.empty, 0, [], 0⟩ : GFact)]).bind fun l7 =>
   ref13_Facts_L4 n t0 c (l7, (IntKind.i64.wrap (t7 + 1)))
  else
   some t310)
def ref13_Facts_L5 (n : Nat) (t0 : GRoles) : Nat → (List GFact × Int) → Option (List GFact)
 | 0, _ => none
 | c + 1, (t313, t8) =>
  (if (decide (t8 < (t0.grants.length : Int))) then
   (idx t0.grants t8).bind fun x10 =>
   (app t313 [(⟨5, x10.role, x10.op, x10.obj, 0, [], 0⟩ : GFact)]).bind fun l9 =>
   ref13_Facts_L5 n t0 c (l9, (IntKind.i64.wrap (t8 + 1)))
  else
   some t313)
def ref13_Facts_L6 (n : Nat) (t0 : GRoles) : Nat → (List GFact × Int) → Option (List GFact)
 | 0, _ => none
 | c + 1, (t316, t9) =>
  (if (decide (t9 < (t0.ssd.length : Int))) then
   (idx t0.ssd t9).bind fun x12 =>
   (app [] x12.roles).bind fun _ =>
   (app t316 [(⟨6, x12.name, ByteArray.empty, ByteArray.empty, x12.n_, x12.roles, 0⟩ : GFact)]).bind fun l13 =>
   ref13_Facts_L6 n t0 c (l13, (IntKind.i64.wrap (t9 + 1)))
  else
   some t316)
def ref13_Facts_L7 (n : Nat) (t0 : GRoles) : Nat → (List GFact × Int) → Option (List GFact)
 | 0, _ => none
 | c + 1, (t319, t10) =>
  (if (decide (t10 < (t0.dsd.length : Int))) then
   (idx t0.dsd t10).bind fun x14 =>
   (app [] x14.roles).bind fun _ =>
   (app t319 [(⟨7, x14.name, ByteArray.empty, ByteArray.empty, x14.n_, x14.roles, 0⟩ : GFact)]).bind fun l17 =>
   ref13_Facts_L7 n t0 c (l17, (IntKind.i64.wrap (t10 + 1)))
  else
   some t319)
def ref13_Facts_L8 (n : Nat) (t0 : GRoles) : Nat → (List GFact × Int) → Option (List GFact)
 | 0, _ => none
 | c + 1, (t322, t11) =>
  (if (decide (t11 < (t0.sessions.length : Int))) then
   (idx t0.sessions t11).bind fun x16 =>
   (app [] x16.roles).bind fun _ =>
   (app t322 [(⟨8, x16.name, x16.user, ByteArray.empty, 0, x16.roles, 0⟩ : GFact)]).bind fun l21 =>
   ref13_Facts_L8 n t0 c (l21, (IntKind.i64.wrap (t11 + 1)))
  else
   some t322)
def ref13_Facts (n : Nat) (t0 : GRoles) : Option (List GFact) :=
 (
  ref13_Facts_L1 n t0 n ([], 0) : Option (List GFact)).bind fun t33 =>
 (
  ref13_Facts_L2 n t0 n (t33, 0) : Option (List GFact)).bind fun t36 =>
 (
  ref13_Facts_L3 n t0 n (t36, 0) : Option (List GFact)).bind fun t39 =>
 (
  ref13_Facts_L4 n t0 n (t39, 0) : Option (List GFact)).bind fun t312 =>
 (
  ref13_Facts_L5 n t0 n (t312, 0) : Option (List GFact)).bind fun t315 =>
 (
  ref13_Facts_L6 n t0 n (t315, 0) : Option (List GFact)).bind fun t318 =>
 (
  ref13_Facts_L7 n t0 n (t318, 0) : Option (List GFact)).bind fun t321 =>
 (
  ref13_Facts_L8 n t0 n (t321, 0) : Option (List GFact)).bind fun t324 =>
 some t324
set_option maxHeartbeats 8000000 in
theorem ref13_Facts_ok {n : Nat} {t0 : GRoles} {r : List GFact} (H : ref13_Facts n t0 = some r) : PureOK Try.prog 35 [D.ag (eGRoles t0)] (D.sl (List.map eGFact r)) true := by
 unfold ref13_Facts at H
 refine ZP tab_ok fol (rs := #[.tmp 2]) Try.func35 ?_
 refine zsq (ZT 1 ?_)
 refine Z0 ?_
 refine zsq (ZT 1 ?_)
 refine Z0 ?_
 refine zsq (zsq ?_)
 refine ZT 1 ?_
 refine Z0 ?_
 obtain ⟨e_, E1, H2⟩ := zbi H
 refine zjn (α := { y : List GFact // e_ = y } × Nat) (fun | ⟨⟨t33, _⟩, g3⟩ => ⟨upd 1 (.pt 0 0) (upd 3 (accV 1 g3 (List.map eGFact t33)) noFr), upd 0 (some (.bx [.d (.sl (List.map eS t0.users)) true, .d (.sl (List.map eS t0.roles)) true, .d (.sl (List.map eGPair t0.inherit)) true, .d (.sl (List.map eGPair t0.assign)) true, .d (.sl (List.map eGGrant t0.grants)) true, .d (.sl (List.map eGSod t0.ssd)) true, .d (.sl (List.map eGSod t0.dsd)) true, .d (.sl (List.map eGSession t0.sessions)) true])) (upd 1 (accO 7 g3 false (List.map eGFact t33)) noHp), 2⟩) ?_ ?_
 ·refine zbk ?_
  refine zlp (α := { q : (Nat × (List GFact × Int)) × Nat // ref13_Facts_L1 n t0 q.1.1 q.1.2 = some e_ }) (fun | ⟨⟨⟨c, ⟨t3, t4⟩⟩, g⟩, _⟩ => ⟨upd 1 (.pt 0 0) (upd 3 (accV 1 g (List.map eGFact t3)) (upd 4 (.v (.int .i64 t4)) noFr)), upd 0 (some (.bx [.d (.sl (List.map eS t0.users)) true, .d (.sl (List.map eS t0.roles)) true, .d (.sl (List.map eGPair t0.inherit)) true, .d (.sl (List.map eGPair t0.assign)) true, .d (.sl (List.map eGGrant t0.grants)) true, .d (.sl (List.map eGSod t0.ssd)) true, .d (.sl (List.map eGSod t0.dsd)) true, .d (.sl (List.map eGSession t0.sessions)) true])) (upd 1 (accO 7 g false (List.map eGFact t3)) noHp), 2⟩) (fun q => q.1.1.1) ⟨((n, ([], 0)), 0), E1⟩ ?_ ?_
  ·exact ZR [(0, 0)]
  ·rintro ⟨⟨⟨c, ⟨t3, t4⟩⟩, g⟩, L3⟩
   rcases c with _ | c
   ·exact Zx L3
   ·unfold ref13_Facts_L1 at L3
    try dsimp only at L3
    refine ZT 1 ?_
    refine Z0 ?_
    rcases zit L3 with ⟨c12, H13⟩ | ⟨c12, H13⟩
    ·obtain ⟨x2, b14, H15⟩ := zbi H13
     obtain ⟨h16, h17⟩ := zix b14
     try simp only [Int.reduceToNat, Int.toNat_natCast] at h17
     have h18 := map_at eS h17
     obtain ⟨l, b20, H21⟩ := zbi H15
     obtain ⟨h22, h23⟩ := app_inv b20
     have h22 : t3.length + 1 ≤ 4294967296 := h22
     have h24 : List.map eGFact t3 ++ [[.v (.int .i64 1), .v (.string x2), .v (.string ByteArray.empty), .v (.string ByteArray.empty), .v (.int .i64 0), .sl [], .v (.int .i64 0)]] = List.map eGFact l := app_map eGFact h23
     have h25 : t3.length + 1 = l.length := app_len h23
     have h26 : l.length ≤ 4294967296 := by omega
     have q27 : 0 < l.length := by omega
     refine Z1 (Y2 (Y6 c12 (zno .i64 h16) h18 h22 h24 h25) h26) ?_
     rcases t3 with _ | ⟨q0, q1⟩
     ·try simp only [List.map_nil, accI, accN]
      exact ⟨⟨((c, (l, (IntKind.i64.wrap (t4 + 1)))), 0), H21⟩, ZR [(0, 0), (1, 15)], Nat.lt_succ_self _⟩
     ·try simp only [List.map_cons, accI, accN]
      exact ⟨⟨((c, (l, (IntKind.i64.wrap (t4 + 1)))), (g + 1)), H21⟩, ZR [(0, 0), (1, 1)], Nat.lt_succ_self _⟩
    ·refine Z1 c12 ?_
     obtain rfl := Zi H13
     exact ⟨⟨⟨t3, rfl⟩, g⟩, ZR [(0, 0), (1, 1)]⟩
 ·rintro ⟨⟨t33, he316⟩, g3⟩
  obtain rfl := he316.symm
  try dsimp only at H2
  refine zsq (zsq ?_)
  refine ZT 1 ?_
  refine Z0 ?_
  obtain ⟨e_2, E28, H29⟩ := zbi H2
  refine zjn (α := { y : List GFact // e_2 = y } × Nat) (fun | ⟨⟨t36, _⟩, g7⟩ => ⟨upd 1 (.pt 0 0) (upd 3 (accV 1 g7 (List.map eGFact t36)) noFr), upd 0 (some (.bx [.d (.sl (List.map eS t0.users)) true, .d (.sl (List.map eS t0.roles)) true, .d (.sl (List.map eGPair t0.inherit)) true, .d (.sl (List.map eGPair t0.assign)) true, .d (.sl (List.map eGGrant t0.grants)) true, .d (.sl (List.map eGSod t0.ssd)) true, .d (.sl (List.map eGSod t0.dsd)) true, .d (.sl (List.map eGSession t0.sessions)) true])) (upd 1 (accO 7 g7 false (List.map eGFact t36)) noHp), 2⟩) ?_ ?_
  ·refine zbk ?_
   refine zlp (α := { q : (Nat × (List GFact × Int)) × Nat // ref13_Facts_L2 n t0 q.1.1 q.1.2 = some e_2 }) (fun | ⟨⟨⟨c, ⟨t34, t5⟩⟩, g5⟩, _⟩ => ⟨upd 1 (.pt 0 0) (upd 3 (accV 1 g5 (List.map eGFact t34)) (upd 5 (.v (.int .i64 t5)) noFr)), upd 0 (some (.bx [.d (.sl (List.map eS t0.users)) true, .d (.sl (List.map eS t0.roles)) true, .d (.sl (List.map eGPair t0.inherit)) true, .d (.sl (List.map eGPair t0.assign)) true, .d (.sl (List.map eGGrant t0.grants)) true, .d (.sl (List.map eGSod t0.ssd)) true, .d (.sl (List.map eGSod t0.dsd)) true, .d (.sl (List.map eGSession t0.sessions)) true])) (upd 1 (accO 7 g5 false (List.map eGFact t34)) noHp), 2⟩) (fun q => q.1.1.1) ⟨((n, (t33, 0)), g3), E28⟩ ?_ ?_
   ·exact ZR [(0, 0), (1, 1)]
   ·rintro ⟨⟨⟨c, ⟨t34, t5⟩⟩, g5⟩, L30⟩
    rcases c with _ | c
    ·exact Zx L30
    ·unfold ref13_Facts_L2 at L30
     try dsimp only at L30
     refine ZT 1 ?_
     refine Z0 ?_
     rcases zit L30 with ⟨c47, H48⟩ | ⟨c47, H48⟩
     ·obtain ⟨x4, b49, H50⟩ := zbi H48
      obtain ⟨h51, h52⟩ := zix b49
      try simp only [Int.reduceToNat, Int.toNat_natCast] at h52
      have h53 := map_at eS h52
      obtain ⟨l3, b55, H56⟩ := zbi H50
      obtain ⟨h57, h58⟩ := app_inv b55
      have h57 : t34.length + 1 ≤ 4294967296 := h57
      have h59 : List.map eGFact t34 ++ [[.v (.int .i64 2), .v (.string x4), .v (.string ByteArray.empty), .v (.string ByteArray.empty), .v (.int .i64 0), .sl [], .v (.int .i64 0)]] = List.map eGFact l3 := app_map eGFact h58
      have h60 : t34.length + 1 = l3.length := app_len h58
      have h61 : l3.length ≤ 4294967296 := by omega
      have q62 : 0 < l3.length := by omega
      refine Z1 (Y2 (Y6 c47 (zno .i64 h51) h53 h57 h59 h60) h61) ?_
      rcases t34 with _ | ⟨q0, q1⟩
      ·try simp only [List.map_nil, accI, accN]
       exact ⟨⟨((c, (l3, (IntKind.i64.wrap (t5 + 1)))), 0), H56⟩, ZR [(0, 0), (1, 15)], Nat.lt_succ_self _⟩
      ·try simp only [List.map_cons, accI, accN]
       exact ⟨⟨((c, (l3, (IntKind.i64.wrap (t5 + 1)))), (g5 + 1)), H56⟩, ZR [(0, 0), (1, 1)], Nat.lt_succ_self _⟩
     ·refine Z1 c47 ?_
      obtain rfl := Zi H48
      exact ⟨⟨⟨t34, rfl⟩, g5⟩, ZR [(0, 0), (1, 1)]⟩
  ·rintro ⟨⟨t36, he315⟩, g7⟩
   obtain rfl := he315.symm
   try dsimp only at H29
   refine zsq (zsq ?_)
   refine ZT 1 ?_
   refine Z0 ?_
   obtain ⟨e_3, E63, H64⟩ := zbi H29
   refine zjn (α := { y : List GFact // e_3 = y } × Nat) (fun | ⟨⟨t39, _⟩, g11⟩ => ⟨upd 1 (.pt 0 0) (upd 3 (accV 1 g11 (List.map eGFact t39)) noFr), upd 0 (some (.bx [.d (.sl (List.map eS t0.users)) true, .d (.sl (List.map eS t0.roles)) true, .d (.sl (List.map eGPair t0.inherit)) true, .d (.sl (List.map eGPair t0.assign)) true, .d (.sl (List.map eGGrant t0.grants)) true, .d (.sl (List.map eGSod t0.ssd)) true, .d (.sl (List.map eGSod t0.dsd)) true, .d (.sl (List.map eGSession t0.sessions)) true])) (upd 1 (accO 7 g11 false (List.map eGFact t39)) noHp), 2⟩) ?_ ?_
   ·refine zbk ?_
    refine zlp (α := { q : (Nat × (List GFact × Int)) × Nat // ref13_Facts_L3 n t0 q.1.1 q.1.2 = some e_3 }) (fun | ⟨⟨⟨c, ⟨t37, t6⟩⟩, g9⟩, _⟩ => ⟨upd 1 (.pt 0 0) (upd 3 (accV 1 g9 (List.map eGFact t37)) (upd 6 (.v (.int .i64 t6)) noFr)), upd 0 (some (.bx [.d (.sl (List.map eS t0.users)) true, .d (.sl (List.map eS t0.roles)) true, .d (.sl (List.map eGPair t0.inherit)) true, .d (.sl (List.map eGPair t0.assign)) true, .d (.sl (List.map eGGrant t0.grants)) true, .d (.sl (List.map eGSod t0.ssd)) true, .d (.sl (List.map eGSod t0.dsd)) true, .d (.sl (List.map eGSession t0.sessions)) true])) (upd 1 (accO 7 g9 false (List.map eGFact t37)) noHp), 2⟩) (fun q => q.1.1.1) ⟨((n, (t36, 0)), g7), E63⟩ ?_ ?_
    ·exact ZR [(0, 0), (1, 1)]
    ·rintro ⟨⟨⟨c, ⟨t37, t6⟩⟩, g9⟩, L65⟩
     rcases c with _ | c
     ·exact Zx L65
     ·unfold ref13_Facts_L3 at L65
      try dsimp only at L65
      refine ZT 1 ?_
      refine Z0 ?_
      rcases zit L65 with ⟨c82, H83⟩ | ⟨c82, H83⟩
      ·obtain ⟨x6, b84, H85⟩ := zbi H83
       obtain ⟨h86, h87⟩ := zix b84
       try simp only [Int.reduceToNat, Int.toNat_natCast] at h87
       have h88 := map_at eGPair h87
       obtain ⟨l5, b90, H91⟩ := zbi H85
       obtain ⟨h92, h93⟩ := app_inv b90
       have h92 : t37.length + 1 ≤ 4294967296 := h92
       have h94 : List.map eGFact t37 ++ [[.v (.int .i64 3), .v (.string x6.a), .v (.string x6.b), .v (.string ByteArray.empty), .v (.int .i64 0), .sl [], .v (.int .i64 0)]] = List.map eGFact l5 := app_map eGFact h93
       have h95 : t37.length + 1 = l5.length := app_len h93
       have h96 : l5.length ≤ 4294967296 := by omega
       have q97 : 0 < l5.length := by omega
       refine Z1 (Y2 (Y6 c82 (zno .i64 h86) h88 h92 h94 h95) h96) ?_
       refine Rd_endF (by (cases t37 <;> rfl)) ?_
       refine Z1 (Y2 (Y6 c82 (zno .i64 h86) h88 h92 h94 h95) h96) ?_
       rcases t37 with _ | ⟨q0, q1⟩
       ·try simp only [List.map_nil, accI, accN]
        exact ⟨⟨((c, (l5, (IntKind.i64.wrap (t6 + 1)))), 0), H91⟩, ZR [(0, 0), (1, 22)], Nat.lt_succ_self _⟩
       ·try simp only [List.map_cons, accI, accN]
        exact ⟨⟨((c, (l5, (IntKind.i64.wrap (t6 + 1)))), (g9 + 1)), H91⟩, ZR [(0, 0), (1, 1)], Nat.lt_succ_self _⟩
      ·refine Z1 c82 ?_
       obtain rfl := Zi H83
       exact ⟨⟨⟨t37, rfl⟩, g9⟩, ZR [(0, 0), (1, 1)]⟩
   ·rintro ⟨⟨t39, he314⟩, g11⟩
    obtain rfl := he314.symm
    try dsimp only at H64
    refine zsq (zsq ?_)
    refine ZT 1 ?_
    refine Z0 ?_
    obtain ⟨e_4, E98, H99⟩ := zbi H64
    refine zjn (α := { y : List GFact // e_4 = y } × Nat) (fun | ⟨⟨t312, _⟩, g15⟩ => ⟨upd 1 (.pt 0 0) (upd 3 (accV 1 g15 (List.map eGFact t312)) noFr), upd 0 (some (.bx [.d (.sl (List.map eS t0.users)) true, .d (.sl (List.map eS t0.roles)) true, .d (.sl (List.map eGPair t0.inherit)) true, .d (.sl (List.map eGPair t0.assign)) true, .d (.sl (List.map eGGrant t0.grants)) true, .d (.sl (List.map eGSod t0.ssd)) true, .d (.sl (List.map eGSod t0.dsd)) true, .d (.sl (List.map eGSession t0.sessions)) true])) (upd 1 (accO 7 g15 false (List.map eGFact t312)) noHp), 2⟩) ?_ ?_
    ·refine zbk ?_
     refine zlp (α := { q : (Nat × (List GFact × Int)) × Nat // ref13_Facts_L4 n t0 q.1.1 q.1.2 = some e_4 }) (fun | ⟨⟨⟨c, ⟨t310, t7⟩⟩, g13⟩, _⟩ => ⟨upd 1 (.pt 0 0) (upd 3 (accV 1 g13 (List.map eGFact t310)) (upd 7 (.v (.int .i64 t7)) noFr)), upd 0 (some (.bx [.d (.sl (List.map eS t0.users)) true, .d (.sl (List.map eS t0.roles)) true, .d (.sl (List.map eGPair t0.inherit)) true, .d (.sl (List.map eGPair t0.assign)) true, .d (.sl (List.map eGGrant t0.grants)) true, .d (.sl (List.map eGSod t0.ssd)) true, .d (.sl (List.map eGSod t0.dsd)) true, .d (.sl (List.map eGSession t0.sessions)) true])) (upd 1 (accO 7 g13 false (List.map eGFact t310)) noHp), 2⟩) (fun q => q.1.1.1) ⟨((n, (t39, 0)), g11), E98⟩ ?_ ?_
     ·exact ZR [(0, 0), (1, 1)]
     ·rintro ⟨⟨⟨c, ⟨t310, t7⟩⟩, g13⟩, L100⟩
      rcases c with _ | c
      ·exact Zx L100
      ·unfold ref13_Facts_L4 at L100
       try dsimp only at L100
       refine ZT 1 ?_
       refine Z0 ?_
       rcases zit L100 with ⟨c117, H118⟩ | ⟨c117, H118⟩
       ·obtain ⟨x8, b119, H120⟩ := zbi H118
        obtain ⟨h121, h122⟩ := zix b119
        try simp only [Int.reduceToNat, Int.toNat_natCast] at h122
        have h123 := map_at eGPair h122
        obtain ⟨l7, b125, H126⟩ := zbi H120
        obtain ⟨h127, h128⟩ := app_inv b125
        have h127 : t310.length + 1 ≤ 4294967296 := h127
        have h129 : List.map eGFact t310 ++ [[.v (.int .i64 4), .v (.string x8.a), .v (.string x8.b), .v (.string ByteArray.empty), .v (.int .i64 0), .sl [], .v (.int .i64 0)]] = List.map eGFact l7 := app_map eGFact h128
        have h130 : t310.length + 1 = l7.length := app_len h128
        have h131 : l7.length ≤ 4294967296 := by omega
        have q132 : 0 < l7.length := by omega
        refine Z1 (Y2 (Y6 c117 (zno .i64 h121) h123 h127 h129 h130) h131) ?_
        refine Rd_endF (by (cases t310 <;> rfl)) ?_
        refine Z1 (Y2 (Y6 c117 (zno .i64 h121) h123 h127 h129 h130) h131) ?_
        rcases t310 with _ | ⟨q0, q1⟩
        ·try simp only [List.map_nil, accI, accN]
         exact ⟨⟨((c, (l7, (IntKind.i64.wrap (t7 + 1)))), 0), H126⟩, ZR [(0, 0), (1, 22)], Nat.lt_succ_self _⟩
        ·try simp only [List.map_cons, accI, accN]
         exact ⟨⟨((c, (l7, (IntKind.i64.wrap (t7 + 1)))), (g13 + 1)), H126⟩, ZR [(0, 0), (1, 1)], Nat.lt_succ_self _⟩
       ·refine Z1 c117 ?_
        obtain rfl := Zi H118
        exact ⟨⟨⟨t310, rfl⟩, g13⟩, ZR [(0, 0), (1, 1)]⟩
    ·rintro ⟨⟨t312, he313⟩, g15⟩
     obtain rfl := he313.symm
     try dsimp only at H99
     refine zsq (zsq ?_)
     refine ZT 1 ?_
     refine Z0 ?_
     obtain ⟨e_5, E133, H134⟩ := zbi H99
     refine zjn (α := { y : List GFact // e_5 = y } × Nat) (fun | ⟨⟨t315, _⟩, g19⟩ => ⟨upd 1 (.pt 0 0) (upd 3 (accV 1 g19 (List.map eGFact t315)) noFr), upd 0 (some (.bx [.d (.sl (List.map eS t0.users)) true, .d (.sl (List.map eS t0.roles)) true, .d (.sl (List.map eGPair t0.inherit)) true, .d (.sl (List.map eGPair t0.assign)) true, .d (.sl (List.map eGGrant t0.grants)) true, .d (.sl (List.map eGSod t0.ssd)) true, .d (.sl (List.map eGSod t0.dsd)) true, .d (.sl (List.map eGSession t0.sessions)) true])) (upd 1 (accO 7 g19 false (List.map eGFact t315)) noHp), 2⟩) ?_ ?_
     ·refine zbk ?_
      refine zlp (α := { q : (Nat × (List GFact × Int)) × Nat // ref13_Facts_L5 n t0 q.1.1 q.1.2 = some e_5 }) (fun | ⟨⟨⟨c, ⟨t313, t8⟩⟩, g17⟩, _⟩ => ⟨upd 1 (.pt 0 0) (upd 3 (accV 1 g17 (List.map eGFact t313)) (upd 8 (.v (.int .i64 t8)) noFr)), upd 0 (some (.bx [.d (.sl (List.map eS t0.users)) true, .d (.sl (List.map eS t0.roles)) true, .d (.sl (List.map eGPair t0.inherit)) true, .d (.sl (List.map eGPair t0.assign)) true, .d (.sl (List.map eGGrant t0.grants)) true, .d (.sl (List.map eGSod t0.ssd)) true, .d (.sl (List.map eGSod t0.dsd)) true, .d (.sl (List.map eGSession t0.sessions)) true])) (upd 1 (accO 7 g17 false (List.map eGFact t313)) noHp), 2⟩) (fun q => q.1.1.1) ⟨((n, (t312, 0)), g15), E133⟩ ?_ ?_
      ·exact ZR [(0, 0), (1, 1)]
      ·rintro ⟨⟨⟨c, ⟨t313, t8⟩⟩, g17⟩, L135⟩
       rcases c with _ | c
       ·exact Zx L135
       ·unfold ref13_Facts_L5 at L135
        try dsimp only at L135
        refine ZT 1 ?_
        refine Z0 ?_
        rcases zit L135 with ⟨c152, H153⟩ | ⟨c152, H153⟩
        ·obtain ⟨x10, b154, H155⟩ := zbi H153
         obtain ⟨h156, h157⟩ := zix b154
         try simp only [Int.reduceToNat, Int.toNat_natCast] at h157
         have h158 := map_at eGGrant h157
         obtain ⟨l9, b160, H161⟩ := zbi H155
         obtain ⟨h162, h163⟩ := app_inv b160
         have h162 : t313.length + 1 ≤ 4294967296 := h162
         have h164 : List.map eGFact t313 ++ [[.v (.int .i64 5), .v (.string x10.role), .v (.string x10.op), .v (.string x10.obj), .v (.int .i64 0), .sl [], .v (.int .i64 0)]] = List.map eGFact l9 := app_map eGFact h163
         have h165 : t313.length + 1 = l9.length := app_len h163
         have h166 : l9.length ≤ 4294967296 := by omega
         have q167 : 0 < l9.length := by omega
         refine Z1 (Y2 (Y6 c152 (zno .i64 h156) h158 h162 h164 h165) h166) ?_
         refine Rd_endF (by (cases t313 <;> rfl)) ?_
         refine Z1 (Y2 (Y6 c152 (zno .i64 h156) h158 h162 h164 h165) h166) ?_
         rcases t313 with _ | ⟨q0, q1⟩
         ·try simp only [List.map_nil, accI, accN]
          exact ⟨⟨((c, (l9, (IntKind.i64.wrap (t8 + 1)))), 0), H161⟩, ZR [(0, 0), (1, 28)], Nat.lt_succ_self _⟩
         ·try simp only [List.map_cons, accI, accN]
          exact ⟨⟨((c, (l9, (IntKind.i64.wrap (t8 + 1)))), (g17 + 1)), H161⟩, ZR [(0, 0), (1, 1)], Nat.lt_succ_self _⟩
        ·refine Z1 c152 ?_
         obtain rfl := Zi H153
         exact ⟨⟨⟨t313, rfl⟩, g17⟩, ZR [(0, 0), (1, 1)]⟩
     ·rintro ⟨⟨t315, he312⟩, g19⟩
      obtain rfl := he312.symm
      try dsimp only at H134
      refine zsq (zsq ?_)
      refine ZT 1 ?_
      refine Z0 ?_
      obtain ⟨e_6, E168, H169⟩ := zbi H134
      refine zjn (α := { y : List GFact // e_6 = y } × Nat) (fun | ⟨⟨t318, _⟩, g23⟩ => ⟨upd 1 (.pt 0 0) (upd 3 (accV 1 g23 (List.map eGFact t318)) noFr), upd 0 (some (.bx [.d (.sl (List.map eS t0.users)) true, .d (.sl (List.map eS t0.roles)) true, .d (.sl (List.map eGPair t0.inherit)) true, .d (.sl (List.map eGPair t0.assign)) true, .d (.sl (List.map eGGrant t0.grants)) true, .d (.sl (List.map eGSod t0.ssd)) true, .d (.sl (List.map eGSod t0.dsd)) true, .d (.sl (List.map eGSession t0.sessions)) true])) (upd 1 (accO 7 g23 false (List.map eGFact t318)) noHp), 2⟩) ?_ ?_
      ·refine zbk ?_
       refine zlp (α := { q : (Nat × (List GFact × Int)) × Nat // ref13_Facts_L6 n t0 q.1.1 q.1.2 = some e_6 }) (fun | ⟨⟨⟨c, ⟨t316, t9⟩⟩, g21⟩, _⟩ => ⟨upd 1 (.pt 0 0) (upd 3 (accV 1 g21 (List.map eGFact t316)) (upd 9 (.v (.int .i64 t9)) noFr)), upd 0 (some (.bx [.d (.sl (List.map eS t0.users)) true, .d (.sl (List.map eS t0.roles)) true, .d (.sl (List.map eGPair t0.inherit)) true, .d (.sl (List.map eGPair t0.assign)) true, .d (.sl (List.map eGGrant t0.grants)) true, .d (.sl (List.map eGSod t0.ssd)) true, .d (.sl (List.map eGSod t0.dsd)) true, .d (.sl (List.map eGSession t0.sessions)) true])) (upd 1 (accO 7 g21 false (List.map eGFact t316)) noHp), 2⟩) (fun q => q.1.1.1) ⟨((n, (t315, 0)), g19), E168⟩ ?_ ?_
       ·exact ZR [(0, 0), (1, 1)]
       ·rintro ⟨⟨⟨c, ⟨t316, t9⟩⟩, g21⟩, L170⟩
        rcases c with _ | c
        ·exact Zx L170
        ·unfold ref13_Facts_L6 at L170
         try dsimp only at L170
         refine ZT 1 ?_
         refine Z0 ?_
         rcases zit L170 with ⟨c193, H194⟩ | ⟨c193, H194⟩
         ·obtain ⟨x12, b195, H196⟩ := zbi H194
          obtain ⟨h197, h198⟩ := zix b195
          try simp only [Int.reduceToNat, Int.toNat_natCast] at h198
          have h199 := map_at eGSod h198
          obtain ⟨l12, b201, H202⟩ := zbi H196
          obtain ⟨h203, h204⟩ := app_inv b201
          have h204 : x12.roles = l12 := h204
          subst h204
          have h203 : x12.roles.length ≤ 4294967296 := by have := h203; simpa using this
          obtain ⟨l13, b207, H208⟩ := zbi H202
          obtain ⟨h209, h210⟩ := app_inv b207
          have h209 : t316.length + 1 ≤ 4294967296 := h209
          have h211 : List.map eGFact t316 ++ [[.v (.int .i64 6), .v (.string x12.name), .v (.string ByteArray.empty), .v (.string ByteArray.empty), .v (.int .i64 x12.n_), .sl (List.map eS x12.roles), .v (.int .i64 0)]] = List.map eGFact l13 := app_map eGFact h210
          have h212 : t316.length + 1 = l13.length := app_len h210
          have h213 : l13.length ≤ 4294967296 := by omega
          have q214 : 0 < l13.length := by omega
          refine Z1 (Y2 (Y6 c193 (zno .i64 h197) h199 (plainR_map (f := eS) (fun _ => rfl) x12.roles) (chk_map (n := 1) (f := eS) (fun _ => rfl) x12.roles) h203) (Y4 h209 h211 h212 h213)) ?_
          refine Rd_endF (by (cases t316 <;> rfl)) ?_
          refine Z1 (Y2 (Y6 c193 (zno .i64 h197) h199 (plainR_map (f := eS) (fun _ => rfl) x12.roles) (chk_map (n := 1) (f := eS) (fun _ => rfl) x12.roles) h203) (Y4 h209 h211 h212 h213)) ?_
          rcases t316 with _ | ⟨q0, q1⟩
          ·try simp only [List.map_nil, accI, accN]
           exact ⟨⟨((c, (l13, (IntKind.i64.wrap (t9 + 1)))), 0), H208⟩, ZR [(0, 0), (1, 30)], Nat.lt_succ_self _⟩
          ·try simp only [List.map_cons, accI, accN]
           exact ⟨⟨((c, (l13, (IntKind.i64.wrap (t9 + 1)))), (g21 + 1)), H208⟩, ZR [(0, 0), (1, 1)], Nat.lt_succ_self _⟩
         ·refine Z1 c193 ?_
          obtain rfl := Zi H194
          exact ⟨⟨⟨t316, rfl⟩, g21⟩, ZR [(0, 0), (1, 1)]⟩
      ·rintro ⟨⟨t318, he311⟩, g23⟩
       obtain rfl := he311.symm
       try dsimp only at H169
       refine zsq (zsq ?_)
       refine ZT 1 ?_
       refine Z0 ?_
       obtain ⟨e_7, E215, H216⟩ := zbi H169
       refine zjn (α := { y : List GFact // e_7 = y } × Nat) (fun | ⟨⟨t321, _⟩, g27⟩ => ⟨upd 1 (.pt 0 0) (upd 3 (accV 1 g27 (List.map eGFact t321)) noFr), upd 0 (some (.bx [.d (.sl (List.map eS t0.users)) true, .d (.sl (List.map eS t0.roles)) true, .d (.sl (List.map eGPair t0.inherit)) true, .d (.sl (List.map eGPair t0.assign)) true, .d (.sl (List.map eGGrant t0.grants)) true, .d (.sl (List.map eGSod t0.ssd)) true, .d (.sl (List.map eGSod t0.dsd)) true, .d (.sl (List.map eGSession t0.sessions)) true])) (upd 1 (accO 7 g27 false (List.map eGFact t321)) noHp), 2⟩) ?_ ?_
       ·refine zbk ?_
        refine zlp (α := { q : (Nat × (List GFact × Int)) × Nat // ref13_Facts_L7 n t0 q.1.1 q.1.2 = some e_7 }) (fun | ⟨⟨⟨c, ⟨t319, t10⟩⟩, g25⟩, _⟩ => ⟨upd 1 (.pt 0 0) (upd 3 (accV 1 g25 (List.map eGFact t319)) (upd 10 (.v (.int .i64 t10)) noFr)), upd 0 (some (.bx [.d (.sl (List.map eS t0.users)) true, .d (.sl (List.map eS t0.roles)) true, .d (.sl (List.map eGPair t0.inherit)) true, .d (.sl (List.map eGPair t0.assign)) true, .d (.sl (List.map eGGrant t0.grants)) true, .d (.sl (List.map eGSod t0.ssd)) true, .d (.sl (List.map eGSod t0.dsd)) true, .d (.sl (List.map eGSession t0.sessions)) true])) (upd 1 (accO 7 g25 false (List.map eGFact t319)) noHp), 2⟩) (fun q => q.1.1.1) ⟨((n, (t318, 0)), g23), E215⟩ ?_ ?_
        ·exact ZR [(0, 0), (1, 1)]
        ·rintro ⟨⟨⟨c, ⟨t319, t10⟩⟩, g25⟩, L217⟩
         rcases c with _ | c
         ·exact Zx L217
         ·unfold ref13_Facts_L7 at L217
          try dsimp only at L217
          refine ZT 1 ?_
          refine Z0 ?_
          rcases zit L217 with ⟨c240, H241⟩ | ⟨c240, H241⟩
          ·obtain ⟨x14, b242, H243⟩ := zbi H241
           obtain ⟨h244, h245⟩ := zix b242
           try simp only [Int.reduceToNat, Int.toNat_natCast] at h245
           have h246 := map_at eGSod h245
           obtain ⟨l16, b248, H249⟩ := zbi H243
           obtain ⟨h250, h251⟩ := app_inv b248
           have h251 : x14.roles = l16 := h251
           subst h251
           have h250 : x14.roles.length ≤ 4294967296 := by have := h250; simpa using this
           obtain ⟨l17, b254, H255⟩ := zbi H249
           obtain ⟨h256, h257⟩ := app_inv b254
           have h256 : t319.length + 1 ≤ 4294967296 := h256
           have h258 : List.map eGFact t319 ++ [[.v (.int .i64 7), .v (.string x14.name), .v (.string ByteArray.empty), .v (.string ByteArray.empty), .v (.int .i64 x14.n_), .sl (List.map eS x14.roles), .v (.int .i64 0)]] = List.map eGFact l17 := app_map eGFact h257
           have h259 : t319.length + 1 = l17.length := app_len h257
           have h260 : l17.length ≤ 4294967296 := by omega
           have q261 : 0 < l17.length := by omega
           refine Z1 (Y2 (Y6 c240 (zno .i64 h244) h246 (plainR_map (f := eS) (fun _ => rfl) x14.roles) (chk_map (n := 1) (f := eS) (fun _ => rfl) x14.roles) h250) (Y4 h256 h258 h259 h260)) ?_
           refine Rd_endF (by (cases t319 <;> rfl)) ?_
           refine Z1 (Y2 (Y6 c240 (zno .i64 h244) h246 (plainR_map (f := eS) (fun _ => rfl) x14.roles) (chk_map (n := 1) (f := eS) (fun _ => rfl) x14.roles) h250) (Y4 h256 h258 h259 h260)) ?_
           rcases t319 with _ | ⟨q0, q1⟩
           ·try simp only [List.map_nil, accI, accN]
            exact ⟨⟨((c, (l17, (IntKind.i64.wrap (t10 + 1)))), 0), H255⟩, ZR [(0, 0), (1, 30)], Nat.lt_succ_self _⟩
           ·try simp only [List.map_cons, accI, accN]
            exact ⟨⟨((c, (l17, (IntKind.i64.wrap (t10 + 1)))), (g25 + 1)), H255⟩, ZR [(0, 0), (1, 1)], Nat.lt_succ_self _⟩
          ·refine Z1 c240 ?_
           obtain rfl := Zi H241
           exact ⟨⟨⟨t319, rfl⟩, g25⟩, ZR [(0, 0), (1, 1)]⟩
       ·rintro ⟨⟨t321, he310⟩, g27⟩
        obtain rfl := he310.symm
        try dsimp only at H216
        refine zsq (zsq ?_)
        refine ZT 1 ?_
        refine Z0 ?_
        obtain ⟨e_8, E262, H263⟩ := zbi H216
        refine zjn (α := { y : List GFact // e_8 = y } × Nat) (fun | ⟨⟨t324, _⟩, g31⟩ => ⟨upd 3 (accV 0 g31 (List.map eGFact t324)) noFr, upd 0 (accO 7 g31 false (List.map eGFact t324)) noHp, 1⟩) ?_ ?_
        ·refine zbk ?_
         refine zlp (α := { q : (Nat × (List GFact × Int)) × Nat // ref13_Facts_L8 n t0 q.1.1 q.1.2 = some e_8 }) (fun | ⟨⟨⟨c, ⟨t322, t11⟩⟩, g29⟩, _⟩ => ⟨upd 1 (.pt 0 0) (upd 3 (accV 1 g29 (List.map eGFact t322)) (upd 11 (.v (.int .i64 t11)) noFr)), upd 0 (some (.bx [.d (.sl (List.map eS t0.users)) true, .d (.sl (List.map eS t0.roles)) true, .d (.sl (List.map eGPair t0.inherit)) true, .d (.sl (List.map eGPair t0.assign)) true, .d (.sl (List.map eGGrant t0.grants)) true, .d (.sl (List.map eGSod t0.ssd)) true, .d (.sl (List.map eGSod t0.dsd)) true, .d (.sl (List.map eGSession t0.sessions)) true])) (upd 1 (accO 7 g29 false (List.map eGFact t322)) noHp), 2⟩) (fun q => q.1.1.1) ⟨((n, (t321, 0)), g27), E262⟩ ?_ ?_
         ·exact ZR [(0, 0), (1, 1)]
         ·rintro ⟨⟨⟨c, ⟨t322, t11⟩⟩, g29⟩, L264⟩
          rcases c with _ | c
          ·exact Zx L264
          ·unfold ref13_Facts_L8 at L264
           try dsimp only at L264
           refine ZT 1 ?_
           refine Z0 ?_
           rcases zit L264 with ⟨c287, H288⟩ | ⟨c287, H288⟩
           ·obtain ⟨x16, b289, H290⟩ := zbi H288
            obtain ⟨h291, h292⟩ := zix b289
            try simp only [Int.reduceToNat, Int.toNat_natCast] at h292
            have h293 := map_at eGSession h292
            obtain ⟨l20, b295, H296⟩ := zbi H290
            obtain ⟨h297, h298⟩ := app_inv b295
            have h298 : x16.roles = l20 := h298
            subst h298
            have h297 : x16.roles.length ≤ 4294967296 := by have := h297; simpa using this
            obtain ⟨l21, b301, H302⟩ := zbi H296
            obtain ⟨h303, h304⟩ := app_inv b301
            have h303 : t322.length + 1 ≤ 4294967296 := h303
            have h305 : List.map eGFact t322 ++ [[.v (.int .i64 8), .v (.string x16.name), .v (.string x16.user), .v (.string ByteArray.empty), .v (.int .i64 0), .sl (List.map eS x16.roles), .v (.int .i64 0)]] = List.map eGFact l21 := app_map eGFact h304
            have h306 : t322.length + 1 = l21.length := app_len h304
            have h307 : l21.length ≤ 4294967296 := by omega
            have q308 : 0 < l21.length := by omega
            refine Z1 (Y2 (Y6 c287 (zno .i64 h291) h293 (plainR_map (f := eS) (fun _ => rfl) x16.roles) (chk_map (n := 1) (f := eS) (fun _ => rfl) x16.roles) h297) (Y4 h303 h305 h306 h307)) ?_
            refine Rd_endF (by (cases t322 <;> rfl)) ?_
            refine Z1 (Y2 (Y6 c287 (zno .i64 h291) h293 (plainR_map (f := eS) (fun _ => rfl) x16.roles) (chk_map (n := 1) (f := eS) (fun _ => rfl) x16.roles) h297) (Y4 h303 h305 h306 h307)) ?_
            rcases t322 with _ | ⟨q0, q1⟩
            ·try simp only [List.map_nil, accI, accN]
             exact ⟨⟨((c, (l21, (IntKind.i64.wrap (t11 + 1)))), 0), H302⟩, ZR [(0, 0), (1, 30)], Nat.lt_succ_self _⟩
            ·try simp only [List.map_cons, accI, accN]
             exact ⟨⟨((c, (l21, (IntKind.i64.wrap (t11 + 1)))), (g29 + 1)), H302⟩, ZR [(0, 0), (1, 1)], Nat.lt_succ_self _⟩
           ·refine Z1 c287 ?_
            obtain rfl := Zi H288
            exact ⟨⟨⟨t322, rfl⟩, g29⟩, ZR [(0, 1)]⟩
        ·rintro ⟨⟨t324, he309⟩, g31⟩
         obtain rfl := he309.symm
         try dsimp only at H263
         refine ZT 1 ?_
         refine Z0 ?_
         obtain rfl := Zi H263
         exact ZE0
def ref13_lessTexts_L1 (n : Nat) (a : List ByteArray) (b : List ByteArray) : Nat → Int → Option ((Unit) ⊕ Bool)
 | 0, _ => none
 | c + 1, i =>
  (
   (if (decide (i < (a.length : Int))) then
    some (decide (i < (b.length : Int)))
   else
    some false) : Option (Bool)).bind fun t152 =>
  (if t152 then
   (idx a i).bind fun x3 =>
   (idx b i).bind fun x4 =>
   (if (x3.toList == x4.toList) then
    ref13_lessTexts_L1 n a b c (IntKind.i64.wrap (i + 1))
   else
    some (.inr (Op.bytesLess x3.toList x4.toList)))
  else
   some (.inl ()))
def ref13_lessTexts (n : Nat) (a : List ByteArray) (b : List ByteArray) : Option Bool :=
 (
  ref13_lessTexts_L1 n a b n 0 : Option ((Unit) ⊕ Bool)).bind fun
  | .inl _ =>
   some (decide ((a.length : Int) < (b.length : Int)))
  | .inr r => some r
theorem ref13_lessTexts_ok {n : Nat} {a : List ByteArray} {b : List ByteArray} {r : Bool} (H : ref13_lessTexts n a b = some r) : PureOK Try.prog 105 [D.sl (List.map eS a), D.sl (List.map eS b)] (D.v (.bool r)) true := by
 unfold ref13_lessTexts at H
 refine ZP tab_ok fol (rs := #[.tmp 4]) Try.func105 ?_
 refine zsq (ZT 1 ?_)
 refine Z0 ?_
 refine zsq (zsq ?_)
 refine ZT 1 ?_
 refine Z0 ?_
 obtain ⟨e_, E1, H2⟩ := zbi H
 refine zjn (α := { y : Unit // e_ = .inl y }) (fun | ⟨_, _⟩ => ⟨upd 0 (.d (.sl (List.map eS a)) true) (upd 1 (.d (.sl (List.map eS b)) true) noFr), noHp, 0⟩) ?_ ?_
 ·refine zbk ?_
  refine zlp (α := { q : Nat × Int // ref13_lessTexts_L1 n a b q.1 q.2 = some e_ }) (fun | ⟨⟨c, i⟩, _⟩ => ⟨upd 0 (.d (.sl (List.map eS a)) true) (upd 1 (.d (.sl (List.map eS b)) true) (upd 5 (.v (.int .i64 i)) noFr)), noHp, 0⟩) (fun q => q.1.1) ⟨(n, 0), E1⟩ ?_ ?_
  ·exact ZR []
  ·rintro ⟨⟨c, i⟩, L3⟩
   rcases c with _ | c
   ·exact Zx L3
   ·unfold ref13_lessTexts_L1 at L3
    try dsimp only at L3
    refine zsq (zsq ?_)
    obtain ⟨e_3, E25, H26⟩ := zbi L3
    refine zjn (α := { y : Bool // e_3 = y }) (fun | ⟨t152, _⟩ => ⟨upd 0 (.d (.sl (List.map eS a)) true) (upd 1 (.d (.sl (List.map eS b)) true) (upd 5 (.v (.int .i64 i)) (upd 15 (.v (.bool t152)) noFr))), noHp, 0⟩) ?_ ?_
    ·refine ZT 1 ?_
     refine Z0 ?_
     rcases zit E25 with ⟨c27, H28⟩ | ⟨c27, H28⟩
     ·refine Z1 c27 ?_
      obtain rfl := Zi H28
      exact ⟨⟨(decide (i < (b.length : Int))), rfl⟩, ZR []⟩
     ·refine Z1 c27 ?_
      obtain rfl := Zi H28
      exact ⟨⟨false, rfl⟩, ZR []⟩
    ·rintro ⟨t152, he45⟩
     obtain rfl := he45.symm
     try dsimp only at H26
     refine ZT 2 ?_
     refine Z0 ?_
     rcases zit H26 with ⟨c29, H30⟩ | ⟨c29, H30⟩
     ·obtain ⟨x3, b31, H32⟩ := zbi H30
      obtain ⟨h33, h34⟩ := zix b31
      try simp only [Int.reduceToNat, Int.toNat_natCast] at h34
      have h35 := map_at eS h34
      obtain ⟨x4, b37, H38⟩ := zbi H32
      obtain ⟨h39, h40⟩ := zix b37
      try simp only [Int.reduceToNat, Int.toNat_natCast] at h40
      have h41 := map_at eS h40
      refine Z1 (Y5 c29 (zno .i64 h33) h35 (zno .i64 h39) h41) ?_
      refine Rd_endF (by rfl) ?_
      refine Z1 (Y5 c29 (zno .i64 h33) h35 (zno .i64 h39) h41) ?_
      rcases zit H38 with ⟨c43, H44⟩ | ⟨c43, H44⟩
      ·refine Z1 (Y6 c29 (zno .i64 h33) h35 (zno .i64 h39) h41 c43) ?_
       exact ⟨⟨(c, (IntKind.i64.wrap (i + 1))), H44⟩, ZR [], Nat.lt_succ_self _⟩
      ·refine Z1 (Y6 c29 (zno .i64 h33) h35 (zno .i64 h39) h41 c43) ?_
       refine Rd_endF (by rfl) ?_
       refine Z1 (Y6 c29 (zno .i64 h33) h35 (zno .i64 h39) h41 c43) ?_
       obtain rfl := Zi H44
       obtain rfl := Zi H2
       exact ZE0
     ·refine Z1 c29 ?_
      obtain rfl := Zi H30
      exact ⟨⟨(), rfl⟩, ZR []⟩
 ·rintro ⟨_, he46⟩
  obtain rfl := he46.symm
  try dsimp only at H2
  refine ZT 1 ?_
  refine Z0 ?_
  obtain rfl := Zi H2
  exact ZE0
def ref13_key (_ : Nat) (f : GFact) : Option (List ByteArray) :=
 (
  (if (f.kind == 6) then
   some true
  else
   some (f.kind == 7)) : Option (Bool)).bind fun t5 =>
 (if t5 then
  (app [f.a] f.l).bind fun l =>
  some l
 else
  (if (f.kind == 8) then
   (app [f.a, f.b] f.l).bind fun l2 =>
   some l2
  else
   some [f.a, f.b, f.c]))
theorem ref13_key_ok {n : Nat} {f : GFact} {r : List ByteArray} (H : ref13_key n f = some r) : PureOK Try.prog 106 [D.ag (eGFact f)] (D.sl (List.map eS r)) true := by
 unfold ref13_key at H
 refine ZP tab_ok fol (rs := #[.tmp 2]) Try.func106 ?_
 refine zsq (ZT 1 ?_)
 refine Z0 ?_
 refine zsq (zsq ?_)
 refine ZT 1 ?_
 refine Z0 ?_
 refine zbk ?_
 refine zsq (zsq ?_)
 refine ZT 1 ?_
 refine Z0 ?_
 obtain ⟨e_, E1, H2⟩ := zbi H
 refine zjn (α := { y : Bool // e_ = y }) (fun | ⟨t5, _⟩ => ⟨upd 1 (.pt 0 0) (upd 4 (.v (.int .i64 f.kind)) (upd 5 (.v (.bool t5)) noFr)), upd 0 (some (.bx [.v (.int .i64 f.kind), .v (.string f.a), .v (.string f.b), .v (.string f.c), .v (.int .i64 f.n_), .d (.sl (List.map eS f.l)) true, .v (.int .i64 f.at_)])) noHp, 1⟩) ?_ ?_
 ·refine ZT 1 ?_
  refine Z0 ?_
  rcases zit E1 with ⟨c3, H4⟩ | ⟨c3, H4⟩
  ·refine Z1 c3 ?_
   obtain rfl := Zi H4
   exact ⟨⟨true, rfl⟩, ZR [(0, 0)]⟩
  ·refine Z1 c3 ?_
   obtain rfl := Zi H4
   exact ⟨⟨(f.kind == 7), rfl⟩, ZR [(0, 0)]⟩
 ·rintro ⟨t5, he25⟩
  obtain rfl := he25.symm
  try dsimp only at H2
  refine ZT 3 ?_
  refine Z0 ?_
  rcases zit H2 with ⟨c5, H6⟩ | ⟨c5, H6⟩
  ·obtain ⟨l, b7, H8⟩ := zbi H6
   obtain ⟨h9, h10⟩ := app_inv b7
   have h9 : 1 + f.l.length ≤ 4294967296 := h9
   have h11 : [[.v (.string f.a)]] ++ List.map eS f.l = List.map eS l := app_map eS h10
   have h12 : 1 + f.l.length = l.length := app_len h10
   have h13 : l.length ≤ 4294967296 := by omega
   have q14 : 0 < l.length := by omega
   simp only [List.cons_append, List.nil_append] at h11
   refine Z1 (Y2 (Y6 c5 (plainR_map (f := eS) (fun _ => rfl) f.l) (chk_map (n := 1) (f := eS) (fun _ => rfl) f.l) h9 h11 h12) h13) ?_
   obtain rfl := Zi H8
   exact ZE1 (Y2 (Y6 c5 (plainR_map (f := eS) (fun _ => rfl) f.l) (chk_map (n := 1) (f := eS) (fun _ => rfl) f.l) h9 h11 h12) h13)
  ·refine Z1 c5 ?_
   rcases zit H6 with ⟨c15, H16⟩ | ⟨c15, H16⟩
   ·obtain ⟨l2, b17, H18⟩ := zbi H16
    obtain ⟨h19, h20⟩ := app_inv b17
    have h19 : 2 + f.l.length ≤ 4294967296 := h19
    have h21 : [[.v (.string f.a)], [.v (.string f.b)]] ++ List.map eS f.l = List.map eS l2 := app_map eS h20
    have h22 : 2 + f.l.length = l2.length := app_len h20
    have h23 : l2.length ≤ 4294967296 := by omega
    have q24 : 0 < l2.length := by omega
    simp only [List.cons_append, List.nil_append] at h21
    refine Z1 (Y2 (Y6 c5 c15 (plainR_map (f := eS) (fun _ => rfl) f.l) (chk_map (n := 1) (f := eS) (fun _ => rfl) f.l) h19 h21) (Y2 h22 h23)) ?_
    obtain rfl := Zi H18
    exact ZE1 (Y2 (Y6 c5 c15 (plainR_map (f := eS) (fun _ => rfl) f.l) (chk_map (n := 1) (f := eS) (fun _ => rfl) f.l) h19 h21) (Y2 h22 h23))
   ·refine Z1 (Y2 c5 c15) ?_
    obtain rfl := Zi H16
    exact ZE1 (Y2 c5 c15)
def ref13_lessFact (n : Nat) (a : GFact) (b : GFact) : Option Bool :=
 (if (a.kind != b.kind) then
  some (decide (a.kind < b.kind))
 else
  (
   (if (a.a.toList == b.a.toList) then
    some (a.n_ != b.n_)
   else
    some false) : Option (Bool)).bind fun t26 =>
  (if t26 then
   some (decide (a.n_ < b.n_))
  else
   (ref13_key n a).bind fun t33 =>
   (ref13_key n b).bind fun t35 =>
   (ref13_lessTexts n t33 t35).bind fun t36 =>
   some t36))
theorem ref13_lessFact_ok {n : Nat} {a : GFact} {b : GFact} {r : Bool} (H : ref13_lessFact n a b = some r) : PureOK Try.prog 92 [D.ag (eGFact a), D.ag (eGFact b)] (D.v (.bool r)) true := by
 unfold ref13_lessFact at H
 refine ZP tab_ok fol (rs := #[.tmp 4]) Try.func92 ?_
 refine zsq (ZT 1 ?_)
 refine Z0 ?_
 refine zsq (ZT 1 ?_)
 refine Z0 ?_
 rcases zit H with ⟨c1, H2⟩ | ⟨c1, H2⟩
 ·refine Z1 c1 ?_
  obtain rfl := Zi H2
  exact ZE0
 ·refine Z1 c1 ?_
  refine zsq (zsq ?_)
  obtain ⟨e_, E3, H4⟩ := zbi H2
  refine zjn (α := { y : Bool // e_ = y }) (fun | ⟨t26, _⟩ => ⟨upd 2 (.pt 0 0) (upd 3 (.pt 1 0) (upd 26 (.v (.bool t26)) noFr)), upd 0 (some (.bx [.v (.int .i64 a.kind), .v (.string a.a), .v (.string a.b), .v (.string a.c), .v (.int .i64 a.n_), .d (.sl (List.map eS a.l)) true, .v (.int .i64 a.at_)])) (upd 1 (some (.bx [.v (.int .i64 b.kind), .v (.string b.a), .v (.string b.b), .v (.string b.c), .v (.int .i64 b.n_), .d (.sl (List.map eS b.l)) true, .v (.int .i64 b.at_)])) noHp), 2⟩) ?_ ?_
  ·refine ZT 1 ?_
   refine Z0 ?_
   rcases zit E3 with ⟨c5, H6⟩ | ⟨c5, H6⟩
   ·refine Z1 c5 ?_
    obtain rfl := Zi H6
    exact ⟨⟨(a.n_ != b.n_), rfl⟩, ZR [(0, 0), (1, 1)]⟩
   ·refine Z1 c5 ?_
    obtain rfl := Zi H6
    exact ⟨⟨false, rfl⟩, ZR [(0, 0), (1, 1)]⟩
  ·rintro ⟨t26, he15⟩
   obtain rfl := he15.symm
   try dsimp only at H4
   refine ZT 2 ?_
   refine Z0 ?_
   rcases zit H4 with ⟨c7, H8⟩ | ⟨c7, H8⟩
   ·refine Z1 c7 ?_
    obtain rfl := Zi H8
    exact ZE0
   ·obtain ⟨t33, b9, H10⟩ := zbi H8
    refine Z1 c7 ?_
    refine ZD0 (ref13_key_ok b9) ?_
    obtain ⟨t35, b11, H12⟩ := zbi H10
    refine Z1 c7 ?_
    refine ZD0 (ref13_key_ok b11) ?_
    obtain ⟨t36, b13, H14⟩ := zbi H12
    refine Z1 c7 ?_
    refine ZD0 (ref13_lessTexts_ok b13) ?_
    refine Z1 c7 ?_
    refine Rd_endF (by rfl) ?_
    refine Z1 c7 ?_
    obtain rfl := Zi H14
    exact ZE0
def ref13_in_L1 (n : Nat) (l : List ByteArray) (s : ByteArray) : Nat → Int → Option ((Unit) ⊕ Bool)
 | 0, _ => none
 | c + 1, i =>
  (if (decide (i < (l.length : Int))) then
   (idx l i).bind fun x2 =>
   (if (x2.toList == s.toList) then
    some (.inr true)
   else
    ref13_in_L1 n l s c (IntKind.i64.wrap (i + 1)))
  else
   some (.inl ()))
def ref13_in (n : Nat) (l : List ByteArray) (s : ByteArray) : Option Bool :=
 (
  ref13_in_L1 n l s n 0 : Option ((Unit) ⊕ Bool)).bind fun
  | .inl _ =>
   some false
  | .inr r => some r
theorem ref13_in_ok {n : Nat} {l : List ByteArray} {s : ByteArray} {r : Bool} (H : ref13_in n l s = some r) : PureOK Try.prog 65 [D.sl (List.map eS l), D.v (.string s)] (D.v (.bool r)) true := by
 unfold ref13_in at H
 refine ZP tab_ok fol (rs := #[.tmp 4]) Try.func65 ?_
 refine zsq (ZT 1 ?_)
 refine Z0 ?_
 refine zsq (zsq ?_)
 refine ZT 1 ?_
 refine Z0 ?_
 obtain ⟨e_, E1, H2⟩ := zbi H
 refine zjn (α := { y : Unit // e_ = .inl y }) (fun | ⟨_, _⟩ => ⟨noFr, noHp, 0⟩) ?_ ?_
 ·refine zbk ?_
  refine zlp (α := { q : Nat × Int // ref13_in_L1 n l s q.1 q.2 = some e_ }) (fun | ⟨⟨c, i⟩, _⟩ => ⟨upd 0 (.d (.sl (List.map eS l)) true) (upd 1 (.v (.string s)) (upd 5 (.v (.int .i64 i)) noFr)), noHp, 0⟩) (fun q => q.1.1) ⟨(n, 0), E1⟩ ?_ ?_
  ·exact ZR []
  ·rintro ⟨⟨c, i⟩, L3⟩
   rcases c with _ | c
   ·exact Zx L3
   ·unfold ref13_in_L1 at L3
    try dsimp only at L3
    refine ZT 1 ?_
    refine Z0 ?_
    rcases zit L3 with ⟨c14, H15⟩ | ⟨c14, H15⟩
    ·obtain ⟨x2, b16, H17⟩ := zbi H15
     obtain ⟨h18, h19⟩ := zix b16
     try simp only [Int.reduceToNat, Int.toNat_natCast] at h19
     have h20 := map_at eS h19
     refine Z1 (Y3 c14 (zno .i64 h18) h20) ?_
     rcases zit H17 with ⟨c22, H23⟩ | ⟨c22, H23⟩
     ·refine Z1 (Y4 c14 (zno .i64 h18) h20 c22) ?_
      obtain rfl := Zi H23
      obtain rfl := Zi H2
      exact ZE0
     ·refine Z1 (Y4 c14 (zno .i64 h18) h20 c22) ?_
      exact ⟨⟨(c, (IntKind.i64.wrap (i + 1))), H23⟩, ZR [], Nat.lt_succ_self _⟩
    ·refine Z1 c14 ?_
     obtain rfl := Zi H15
     exact ⟨⟨(), rfl⟩, ZR []⟩
 ·rintro ⟨_, he24⟩
  obtain rfl := he24.symm
  try dsimp only at H2
  refine ZT 1 ?_
  refine Z0 ?_
  obtain rfl := Zi H2
  exact ZE0
def ref13_reach_L2 (n : Nat) (l : List GPair) (but : Int) (i : Int) : Nat → (Bool × List ByteArray × Int) → Option (Bool × List ByteArray)
 | 0, _ => none
 | c + 1, (up9, out5, k4) =>
  (if (decide (k4 < (l.length : Int))) then
   (idx l k4).bind fun x6 =>
   (
    (if up9 then
     some (true, x6.b, x6.a)
    else
     some (false, x6.a, x6.b)) : Option (Bool × ByteArray × ByteArray)).bind fun (up10, a4, b4) =>
   (if (k4 != but) then
    (idx out5 i).bind fun x7 =>
    (if (a4.toList == x7.toList) then
     (ref13_in n out5 b4).bind fun t554 =>
     (if t554 then
      ref13_reach_L2 n l but i c (up10, out5, (IntKind.i64.wrap (k4 + 1)))
     else
      (app out5 [b4]).bind fun l4 =>
      ref13_reach_L2 n l but i c (up10, l4, (IntKind.i64.wrap (k4 + 1))))
    else
     ref13_reach_L2 n l but i c (up10, out5, (IntKind.i64.wrap (k4 + 1))))
   else
    ref13_reach_L2 n l but i c (up10, out5, (IntKind.i64.wrap (k4 + 1))))
  else
   some (up9, out5))
def ref13_reach_L1 (n : Nat) (l : List GPair) (but : Int) : Nat → (Bool × List ByteArray × Int) → Option (List ByteArray)
 | 0, _ => none
 | c + 1, (up7, out4, i) =>
  (if (decide (i < (out4.length : Int))) then
   (
    ref13_reach_L2 n l but i n (up7, out4, 0) : Option (Bool × List ByteArray)).bind fun (up12, out7) =>
   ref13_reach_L1 n l but c (up12, out7, (IntKind.i64.wrap (i + 1)))
  else
   some out4)
def ref13_reach (n : Nat) (l : List GPair) (role : ByteArray) (up : Bool) (but : Int) : Option (List ByteArray) :=
 (
  ref13_reach_L1 n l but n (up, [role], 0) : Option (List ByteArray)).bind fun out9 =>
 (ref1_Texts n out9).bind fun t63 =>
 some t63
theorem ref13_reach_ok {n : Nat} {l : List GPair} {role : ByteArray} {up : Bool} {but : Int} {r : List ByteArray} (H : ref13_reach n l role up but = some r) : PureOK Try.prog 66 [D.sl (List.map eGPair l), D.v (.string role), D.v (.bool up), D.v (.int .i64 but)] (D.sl (List.map eS r)) true := by
 unfold ref13_reach at H
 refine ZP tab_ok fol (rs := #[.tmp 8]) Try.func66 ?_
 refine zsq (ZT 1 ?_)
 refine Z0 ?_
 refine zsq (ZT 1 ?_)
 refine Z0 ?_
 refine zsq (zsq ?_)
 refine ZT 1 ?_
 refine Z0 ?_
 obtain ⟨e_, E1, H2⟩ := zbi H
 refine zjn (α := { y : List ByteArray // e_ = y } × Nat) (fun | ⟨⟨out9, _⟩, g9⟩ => ⟨upd 9 (.so 0 g9 0 (out9.length)) noFr, upd 0 (some (.rw (List.map eS out9) 1 g9 false false)) noHp, 1⟩) ?_ ?_
 ·refine zbk ?_
  refine zlp (α := { q : (Nat × (Bool × List ByteArray × Int)) × Nat // ref13_reach_L1 n l but q.1.1 q.1.2 = some e_ }) (fun | ⟨⟨⟨c, ⟨up7, out4, i⟩⟩, g4⟩, _⟩ => ⟨upd 0 (.d (.sl (List.map eGPair l)) true) (upd 2 (.v (.bool up7)) (upd 3 (.v (.int .i64 but)) (upd 9 (.so 0 g4 0 (out4.length)) (upd 10 (.v (.int .i64 i)) noFr)))), upd 0 (some (.rw (List.map eS out4) 1 g4 false false)) noHp, 1⟩) (fun q => q.1.1.1) ⟨((n, (up, [role], 0)), 0), E1⟩ ?_ ?_
  ·exact ZR [(0, 2)]
  ·rintro ⟨⟨⟨c, ⟨up7, out4, i⟩⟩, g4⟩, L3⟩
   rcases c with _ | c
   ·exact Zx L3
   ·unfold ref13_reach_L1 at L3
    try dsimp only at L3
    refine zsq (ZT 1 ?_)
    refine Z0 ?_
    rcases zit L3 with ⟨c64, H65⟩ | ⟨c64, H65⟩
    ·refine Z1 c64 ?_
     refine zsq (zbk ?_)
     refine zsq (ZT 1 ?_)
     refine Z1 c64 ?_
     obtain ⟨e_5, E66, H67⟩ := zbi H65
     refine zjn (α := { y : Bool × List ByteArray // e_5 = y } × Nat) (fun | ⟨⟨⟨up12, out7⟩, _⟩, g7⟩ => ⟨upd 0 (.d (.sl (List.map eGPair l)) true) (upd 2 (.v (.bool up12)) (upd 3 (.v (.int .i64 but)) (upd 9 (.so 0 g7 0 (out7.length)) (upd 10 (.v (.int .i64 i)) noFr)))), upd 0 (some (.rw (List.map eS out7) 1 g7 false false)) noHp, 1⟩) ?_ ?_
     ·refine zbk ?_
      refine zlp (α := { q : (Nat × (Bool × List ByteArray × Int)) × Nat // ref13_reach_L2 n l but i q.1.1 q.1.2 = some e_5 }) (fun | ⟨⟨⟨c, ⟨up9, out5, k4⟩⟩, g5⟩, _⟩ => ⟨upd 0 (.d (.sl (List.map eGPair l)) true) (upd 2 (.v (.bool up9)) (upd 3 (.v (.int .i64 but)) (upd 9 (.so 0 g5 0 (out5.length)) (upd 10 (.v (.int .i64 i)) (upd 11 (.v (.int .i64 k4)) noFr))))), upd 0 (some (.rw (List.map eS out5) 1 g5 false false)) noHp, 1⟩) (fun q => q.1.1.1) ⟨((n, (up7, out4, 0)), g4), E66⟩ ?_ ?_
      ·exact ZR [(0, 0)]
      ·rintro ⟨⟨⟨c, ⟨up9, out5, k4⟩⟩, g5⟩, L68⟩
       rcases c with _ | c
       ·exact Zx L68
       ·unfold ref13_reach_L2 at L68
        try dsimp only at L68
        refine zsq (ZT 1 ?_)
        refine Z0 ?_
        rcases zit L68 with ⟨c104, H105⟩ | ⟨c104, H105⟩
        ·refine Z1 c104 ?_
         refine zsq (zbk ?_)
         refine zsq (ZT 1 ?_)
         obtain ⟨x6, b106, H107⟩ := zbi H105
         obtain ⟨h108, h109⟩ := zix b106
         try simp only [Int.reduceToNat, Int.toNat_natCast] at h109
         have h110 := map_at eGPair h109
         refine Z1 (Y3 c104 (zno .i64 h108) h110) ?_
         refine Rd_endF (by rfl) ?_
         refine Z1 (Y3 c104 (zno .i64 h108) h110) ?_
         refine zsq (zsq ?_)
         refine ZT 1 ?_
         refine Z1 (Y3 c104 (zno .i64 h108) h110) ?_
         obtain ⟨e_7, E112, H113⟩ := zbi H107
         refine zjn (α := { y : Bool × ByteArray × ByteArray // e_7 = y }) (fun | ⟨⟨up10, a4, b4⟩, _⟩ => ⟨upd 0 (.d (.sl (List.map eGPair l)) true) (upd 2 (.v (.bool up10)) (upd 3 (.v (.int .i64 but)) (upd 9 (.so 0 g5 0 (out5.length)) (upd 10 (.v (.int .i64 i)) (upd 11 (.v (.int .i64 k4)) (upd 12 (.v (.string a4)) (upd 13 (.v (.string b4)) noFr))))))), upd 0 (some (.rw (List.map eS out5) 1 g5 false false)) noHp, 1⟩) ?_ ?_
         ·refine ZT 1 ?_
          refine Z0 ?_
          rcases zit E112 with ⟨c114, H115⟩ | ⟨c114, H115⟩
          ·refine Z1 c114 ?_
           obtain rfl := Zi H115
           exact ⟨⟨(true, x6.b, x6.a), rfl⟩, ZR [(0, 0)]⟩
          ·refine Z1 c114 ?_
           obtain rfl := Zi H115
           exact ⟨⟨(false, x6.a, x6.b), rfl⟩, ZR [(0, 0)]⟩
         ·rintro ⟨⟨up10, a4, b4⟩, he138⟩
          obtain rfl := he138.symm
          try dsimp only at H113
          refine ZT 3 ?_
          refine Z0 ?_
          rcases zit H113 with ⟨c116, H117⟩ | ⟨c116, H117⟩
          ·obtain ⟨x7, b118, H119⟩ := zbi H117
           obtain ⟨h120, h121⟩ := zix b118
           try simp only [Int.reduceToNat, Int.toNat_natCast] at h121
           have h122 := map_at eS h121
           have h123 := at_lt h121
           refine Z1 (Y4 c116 (zno .i64 h120) h122 h123) ?_
           rcases zit H119 with ⟨c124, H125⟩ | ⟨c124, H125⟩
           ·obtain ⟨t554, b126, H127⟩ := zbi H125
            refine Z1 (Y5 c116 (zno .i64 h120) h122 h123 c124) ?_
            refine ZC1 (Y5 c116 (zno .i64 h120) h122 h123 c124) (ref13_in_ok b126) ?_
            refine Z1 (Y5 c116 (zno .i64 h120) h122 h123 c124) ?_
            rcases zit H127 with ⟨c128, H129⟩ | ⟨c128, H129⟩
            ·refine Z1 (Y6 c116 (zno .i64 h120) h122 h123 c124 c128) ?_
             exact ⟨⟨((c, (up10, out5, (IntKind.i64.wrap (k4 + 1)))), g5), H129⟩, ZR [(0, 0)], Nat.lt_succ_self _⟩
            ·obtain ⟨l4, b130, H131⟩ := zbi H129
             obtain ⟨h132, h133⟩ := app_inv b130
             have h132 : out5.length + 1 ≤ 4294967296 := h132
             have h134 : List.map eS out5 ++ [[.v (.string b4)]] = List.map eS l4 := app_map eS h133
             have h135 : out5.length + 1 = l4.length := app_len h133
             have h136 : l4.length ≤ 4294967296 := by omega
             have q137 : 0 < l4.length := by omega
             refine Z1 (Y2 (Y6 c116 (zno .i64 h120) h122 h123 c124 c128) (Y4 h132 h134 h135 h136)) ?_
             exact ⟨⟨((c, (up10, l4, (IntKind.i64.wrap (k4 + 1)))), (g5 + 1)), H131⟩, ZR [(0, 0)], Nat.lt_succ_self _⟩
           ·refine Z1 (Y5 c116 (zno .i64 h120) h122 h123 c124) ?_
            exact ⟨⟨((c, (up10, out5, (IntKind.i64.wrap (k4 + 1)))), g5), H125⟩, ZR [(0, 0)], Nat.lt_succ_self _⟩
          ·refine Z1 c116 ?_
           exact ⟨⟨((c, (up10, out5, (IntKind.i64.wrap (k4 + 1)))), g5), H117⟩, ZR [(0, 0)], Nat.lt_succ_self _⟩
        ·refine Z1 c104 ?_
         obtain rfl := Zi H105
         exact ⟨⟨⟨(up9, out5), rfl⟩, g5⟩, ZR [(0, 0)]⟩
     ·rintro ⟨⟨⟨up12, out7⟩, he139⟩, g7⟩
      obtain rfl := he139.symm
      try dsimp only at H67
      refine Z0 ?_
      refine ZT 1 ?_
      refine Z0 ?_
      exact ⟨⟨((c, (up12, out7, (IntKind.i64.wrap (i + 1)))), g7), H67⟩, ZR [(0, 0)], Nat.lt_succ_self _⟩
    ·refine Z1 c64 ?_
     obtain rfl := Zi H65
     exact ⟨⟨⟨out4, rfl⟩, g4⟩, ZR [(0, 0)]⟩
 ·rintro ⟨⟨out9, he142⟩, g9⟩
  obtain rfl := he142.symm
  try dsimp only at H2
  refine ZT 1 ?_
  obtain ⟨t63, b140, H141⟩ := zbi H2
  refine Z0 ?_
  refine ZC0 (ref1_Texts_ok b140) ?_
  refine Z0 ?_
  obtain rfl := Zi H141
  exact ZE0
def ref13_ring_L1 (n : Nat) (l : List GPair) : Nat → Int → Option ((Unit) ⊕ Bool)
 | 0, _ => none
 | c + 1, i =>
  (if (decide (i < (l.length : Int))) then
   (idx l i).bind fun x2 =>
   (ref13_reach n l x2.b false (-1)).bind fun t162 =>
   (ref13_in n t162 x2.a).bind fun t222 =>
   (if t222 then
    some (.inr true)
   else
    ref13_ring_L1 n l c (IntKind.i64.wrap (i + 1)))
  else
   some (.inl ()))
def ref13_ring (n : Nat) (l : List GPair) : Option Bool :=
 (
  ref13_ring_L1 n l n 0 : Option ((Unit) ⊕ Bool)).bind fun
  | .inl _ =>
   some false
  | .inr r => some r
theorem ref13_ring_ok {n : Nat} {l : List GPair} {r : Bool} (H : ref13_ring n l = some r) : PureOK Try.prog 64 [D.sl (List.map eGPair l)] (D.v (.bool r)) true := by
 unfold ref13_ring at H
 refine ZP tab_ok fol (rs := #[.tmp 2]) Try.func64 ?_
 refine zsq (ZT 1 ?_)
 refine Z0 ?_
 refine zsq (zsq ?_)
 refine ZT 1 ?_
 refine Z0 ?_
 obtain ⟨e_, E1, H2⟩ := zbi H
 refine zjn (α := { y : Unit // e_ = .inl y }) (fun | ⟨_, _⟩ => ⟨noFr, noHp, 0⟩) ?_ ?_
 ·refine zbk ?_
  refine zlp (α := { q : Nat × Int // ref13_ring_L1 n l q.1 q.2 = some e_ }) (fun | ⟨⟨c, i⟩, _⟩ => ⟨upd 0 (.d (.sl (List.map eGPair l)) true) (upd 3 (.v (.int .i64 i)) noFr), noHp, 0⟩) (fun q => q.1.1) ⟨(n, 0), E1⟩ ?_ ?_
  ·exact ZR []
  ·rintro ⟨⟨c, i⟩, L3⟩
   rcases c with _ | c
   ·exact Zx L3
   ·unfold ref13_ring_L1 at L3
    try dsimp only at L3
    refine ZT 1 ?_
    refine Z0 ?_
    rcases zit L3 with ⟨c18, H19⟩ | ⟨c18, H19⟩
    ·obtain ⟨x2, b20, H21⟩ := zbi H19
     obtain ⟨h22, h23⟩ := zix b20
     try simp only [Int.reduceToNat, Int.toNat_natCast] at h23
     have h24 := map_at eGPair h23
     obtain ⟨t162, b26, H27⟩ := zbi H21
     refine Z1 (Y3 c18 (zno .i64 h22) h24) ?_
     refine ZD0 (ref13_reach_ok b26) ?_
     obtain ⟨t222, b28, H29⟩ := zbi H27
     refine Z1 (Y3 c18 (zno .i64 h22) h24) ?_
     refine ZD0 (ref13_in_ok b28) ?_
     refine Z1 (Y3 c18 (zno .i64 h22) h24) ?_
     refine Rd_endF (by rfl) ?_
     refine Z1 (Y3 c18 (zno .i64 h22) h24) ?_
     rcases zit H29 with ⟨c30, H31⟩ | ⟨c30, H31⟩
     ·refine Z1 (Y4 c18 (zno .i64 h22) h24 c30) ?_
      obtain rfl := Zi H31
      obtain rfl := Zi H2
      exact ZE0
     ·refine Z1 (Y4 c18 (zno .i64 h22) h24 c30) ?_
      exact ⟨⟨(c, (IntKind.i64.wrap (i + 1))), H31⟩, ZR [], Nat.lt_succ_self _⟩
    ·refine Z1 c18 ?_
     obtain rfl := Zi H19
     exact ⟨⟨(), rfl⟩, ZR []⟩
 ·rintro ⟨_, he32⟩
  obtain rfl := he32.symm
  try dsimp only at H2
  refine ZT 1 ?_
  refine Z0 ?_
  obtain rfl := Zi H2
  exact ZE0
end Go.Proofs.Ytkkhgdmmbhpckaa.Ab
