/-
 Functions, read off the code.
-/
import Derived.Test.YtkkhgdmmbhpckaaGreatNxa
namespace Go.Proofs.YtkkhgdmmbhpckaaGreat.Ab
open Go.RowKit
def j5_ (n : Nat) (t0 : GRoles) : Nat → (List GFact × Int) → Option (List GFact)
 | 0, _ => none
 | c + 1, (t3, t23) =>
  (if (decide (t23 < (t0.users.length : Int))) then
   (idx t0.users t23).bind fun x2 =>
   (app t3 [(⟨1, x2, ByteArray.empty, ByteArray.empty, 0, [], 0⟩ : GFact)]).bind fun l =>
   j5_ n t0 c (l, (IntKind.i64.wrap (t23 + 1)))
  else
   some t3)
def xV_ (_ : Nat) (_ : GRoles) (st : List GFact) (x2 : ByteArray) (k : List GFact → Option (List GFact)) : Option (List GFact) :=
 match st with
 | t3 =>
  (app t3 [(⟨1, x2, ByteArray.empty, ByteArray.empty, 0, [], 0⟩ : GFact)]).bind fun l =>
  k l
def zV_ (_ : Nat) (_ : GRoles) (st : List GFact) : Option (List GFact) :=
 match st with
 | t3 => some t3
theorem kg_ (n : Nat) (t0 : GRoles) (hx : t0.users.length < 4611686018427387904) (c : Nat) (st : List GFact) (ix : Nat) (hi : ix ≤ t0.users.length) (hc : t0.users.length - ix < c) : j5_ n t0 c (match st, (ix : Int) with | t3, ix => (t3, ix)) = jg_ (xV_ n t0) (zV_ n t0) (t0.users.drop ix) st :=
 q0_ (fun c st ix => j5_ n t0 c (match st, ix with | t3, ix => (t3, ix))) t0.users (xV_ n t0) (zV_ n t0) (fun _ _ _ => rfl) hx c st ix hi hc
def j6_ (n : Nat) (t0 : GRoles) : Nat → (List GFact × Int) → Option (List GFact)
 | 0, _ => none
 | c + 1, (t34, t36) =>
  (if (decide (t36 < (t0.roles.length : Int))) then
   (idx t0.roles t36).bind fun x4 =>
   (app t34 [(⟨2, x4, ByteArray.empty, ByteArray.empty, 0, [], 0⟩ : GFact)]).bind fun l3 =>
   j6_ n t0 c (l3, (IntKind.i64.wrap (t36 + 1)))
  else
   some t34)
def xW_ (_ : Nat) (_ : GRoles) (st : List GFact) (x4 : ByteArray) (k : List GFact → Option (List GFact)) : Option (List GFact) :=
 match st with
 | t34 =>
  (app t34 [(⟨2, x4, ByteArray.empty, ByteArray.empty, 0, [], 0⟩ : GFact)]).bind fun l3 =>
  k l3
def zW_ (_ : Nat) (_ : GRoles) (st : List GFact) : Option (List GFact) :=
 match st with
 | t34 => some t34
theorem kh_ (n : Nat) (t0 : GRoles) (hx : t0.roles.length < 4611686018427387904) (c : Nat) (st : List GFact) (ix : Nat) (hi : ix ≤ t0.roles.length) (hc : t0.roles.length - ix < c) : j6_ n t0 c (match st, (ix : Int) with | t34, ix => (t34, ix)) = jg_ (xW_ n t0) (zW_ n t0) (t0.roles.drop ix) st :=
 q0_ (fun c st ix => j6_ n t0 c (match st, ix with | t34, ix => (t34, ix))) t0.roles (xW_ n t0) (zW_ n t0) (fun _ _ _ => rfl) hx c st ix hi hc
def j7_ (n : Nat) (t0 : GRoles) : Nat → (List GFact × Int) → Option (List GFact)
 | 0, _ => none
 | c + 1, (t38, t49) =>
  (if (decide (t49 < (t0.inherit.length : Int))) then
   (idx t0.inherit t49).bind fun x6 =>
   (app t38 [(⟨3, x6.a, x6.b, ByteArray.empty, 0, [], 0⟩ : GFact)]).bind fun l5 =>
   j7_ n t0 c (l5, (IntKind.i64.wrap (t49 + 1)))
  else
   some t38)
def xX_ (_ : Nat) (_ : GRoles) (st : List GFact) (x6 : GPair) (k : List GFact → Option (List GFact)) : Option (List GFact) :=
 match st with
 | t38 =>
  (app t38 [(⟨3, x6.a, x6.b, ByteArray.empty, 0, [], 0⟩ : GFact)]).bind fun l5 =>
  k l5
def zX_ (_ : Nat) (_ : GRoles) (st : List GFact) : Option (List GFact) :=
 match st with
 | t38 => some t38
theorem ki_ (n : Nat) (t0 : GRoles) (hx : t0.inherit.length < 4611686018427387904) (c : Nat) (st : List GFact) (ix : Nat) (hi : ix ≤ t0.inherit.length) (hc : t0.inherit.length - ix < c) : j7_ n t0 c (match st, (ix : Int) with | t38, ix => (t38, ix)) = jg_ (xX_ n t0) (zX_ n t0) (t0.inherit.drop ix) st :=
 q0_ (fun c st ix => j7_ n t0 c (match st, ix with | t38, ix => (t38, ix))) t0.inherit (xX_ n t0) (zX_ n t0) (fun _ _ _ => rfl) hx c st ix hi hc
def j8_ (n : Nat) (t0 : GRoles) : Nat → (List GFact × Int) → Option (List GFact)
 | 0, _ => none
 | c + 1, (t311, t65) =>
  (if (decide (t65 < (t0.assign.length : Int))) then
   (idx t0.assign t65).bind fun x8 =>
   (app t311 [(⟨4, x8.a, x8.b, ByteArray.empty, 0, [], 0⟩ : GFact)]).bind fun l7 =>
   j8_ n t0 c (l7, (IntKind.i64.wrap (t65 + 1)))
  else
   some t311)
def xY_ (_ : Nat) (_ : GRoles) (st : List GFact) (x8 : GPair) (k : List GFact → Option (List GFact)) : Option (List GFact) :=
 match st with
 | t311 =>
  (app t311 [(⟨4, x8.a, x8.b, ByteArray.empty, 0, [], 0⟩ : GFact)]).bind fun l7 =>
  k l7
def zY_ (_ : Nat) (_ : GRoles) (st : List GFact) : Option (List GFact) :=
 match st with
 | t311 => some t311
theorem kj_ (n : Nat) (t0 : GRoles) (hx : t0.assign.length < 4611686018427387904) (c : Nat) (st : List GFact) (ix : Nat) (hi : ix ≤ t0.assign.length) (hc : t0.assign.length - ix < c) : j8_ n t0 c (match st, (ix : Int) with | t311, ix => (t311, ix)) = jg_ (xY_ n t0) (zY_ n t0) (t0.assign.drop ix) st :=
 q0_ (fun c st ix => j8_ n t0 c (match st, ix with | t311, ix => (t311, ix))) t0.assign (xY_ n t0) (zY_ n t0) (fun _ _ _ => rfl) hx c st ix hi hc
def j9_ (n : Nat) (t0 : GRoles) : Nat → (List GFact × Int) → Option (List GFact)
 | 0, _ => none
 | c + 1, (t314, t81) =>
  (if (decide (t81 < (t0.grants.length : Int))) then
   (idx t0.grants t81).bind fun x10 =>
   (app t314 [(⟨5, x10.role, x10.op, x10.obj, 0, [], 0⟩ : GFact)]).bind fun l9 =>
   j9_ n t0 c (l9, (IntKind.i64.wrap (t81 + 1)))
  else
   some t314)
def xZ_ (_ : Nat) (_ : GRoles) (st : List GFact) (x10 : GGrant) (k : List GFact → Option (List GFact)) : Option (List GFact) :=
 match st with
 | t314 =>
  (app t314 [(⟨5, x10.role, x10.op, x10.obj, 0, [], 0⟩ : GFact)]).bind fun l9 =>
  k l9
def zZ_ (_ : Nat) (_ : GRoles) (st : List GFact) : Option (List GFact) :=
 match st with
 | t314 => some t314
theorem kk_ (n : Nat) (t0 : GRoles) (hx : t0.grants.length < 4611686018427387904) (c : Nat) (st : List GFact) (ix : Nat) (hi : ix ≤ t0.grants.length) (hc : t0.grants.length - ix < c) : j9_ n t0 c (match st, (ix : Int) with | t314, ix => (t314, ix)) = jg_ (xZ_ n t0) (zZ_ n t0) (t0.grants.drop ix) st :=
 q0_ (fun c st ix => j9_ n t0 c (match st, ix with | t314, ix => (t314, ix))) t0.grants (xZ_ n t0) (zZ_ n t0) (fun _ _ _ => rfl) hx c st ix hi hc
def jE_ (n : Nat) (t0 : GRoles) : Nat → (List GFact × Int) → Option (List GFact)
 | 0, _ => none
 | c + 1, (t317, t99) =>
  (if (decide (t99 < (t0.ssd.length : Int))) then
   (idx t0.ssd t99).bind fun x12 =>
   (if (decide (x12.roles.length = 0)) then
    (app t317 [(⟨6, x12.name, ByteArray.empty, ByteArray.empty, x12.n_, [], 0⟩ : GFact)]).bind fun l12 =>
    jE_ n t0 c (l12, (IntKind.i64.wrap (t99 + 1)))
   else
    grd (decide (x12.roles.length ≤ 4294967296)) <|
    (app t317 [(⟨6, x12.name, ByteArray.empty, ByteArray.empty, x12.n_, x12.roles, 0⟩ : GFact)]).bind fun l13 =>
    jE_ n t0 c (l13, (IntKind.i64.wrap (t99 + 1))))
  else
   some t317)
def x0_ (_ : Nat) (_ : GRoles) (st : List GFact) (x12 : GSod) (k : List GFact → Option (List GFact)) : Option (List GFact) :=
 match st with
 | t317 =>
  (if (decide (x12.roles.length = 0)) then
   (app t317 [(⟨6, x12.name, ByteArray.empty, ByteArray.empty, x12.n_, [], 0⟩ : GFact)]).bind fun l12 =>
   k l12
  else
   grd (decide (x12.roles.length ≤ 4294967296)) <|
   (app t317 [(⟨6, x12.name, ByteArray.empty, ByteArray.empty, x12.n_, x12.roles, 0⟩ : GFact)]).bind fun l13 =>
   k l13)
def z0_ (_ : Nat) (_ : GRoles) (st : List GFact) : Option (List GFact) :=
 match st with
 | t317 => some t317
theorem kl_ (n : Nat) (t0 : GRoles) (hx : t0.ssd.length < 4611686018427387904) (c : Nat) (st : List GFact) (ix : Nat) (hi : ix ≤ t0.ssd.length) (hc : t0.ssd.length - ix < c) : jE_ n t0 c (match st, (ix : Int) with | t317, ix => (t317, ix)) = jg_ (x0_ n t0) (z0_ n t0) (t0.ssd.drop ix) st :=
 q0_ (fun c st ix => jE_ n t0 c (match st, ix with | t317, ix => (t317, ix))) t0.ssd (x0_ n t0) (z0_ n t0) (fun _ _ _ => rfl) hx c st ix hi hc
def jF_ (n : Nat) (t0 : GRoles) : Nat → (List GFact × Int) → Option (List GFact)
 | 0, _ => none
 | c + 1, (t320, t118) =>
  (if (decide (t118 < (t0.dsd.length : Int))) then
   (idx t0.dsd t118).bind fun x14 =>
   (if (decide (x14.roles.length = 0)) then
    (app t320 [(⟨7, x14.name, ByteArray.empty, ByteArray.empty, x14.n_, [], 0⟩ : GFact)]).bind fun l16 =>
    jF_ n t0 c (l16, (IntKind.i64.wrap (t118 + 1)))
   else
    grd (decide (x14.roles.length ≤ 4294967296)) <|
    (app t320 [(⟨7, x14.name, ByteArray.empty, ByteArray.empty, x14.n_, x14.roles, 0⟩ : GFact)]).bind fun l17 =>
    jF_ n t0 c (l17, (IntKind.i64.wrap (t118 + 1))))
  else
   some t320)
def x1_ (_ : Nat) (_ : GRoles) (st : List GFact) (x14 : GSod) (k : List GFact → Option (List GFact)) : Option (List GFact) :=
 match st with
 | t320 =>
  (if (decide (x14.roles.length = 0)) then
   (app t320 [(⟨7, x14.name, ByteArray.empty, ByteArray.empty, x14.n_, [], 0⟩ : GFact)]).bind fun l16 =>
   k l16
  else
   grd (decide (x14.roles.length ≤ 4294967296)) <|
   (app t320 [(⟨7, x14.name, ByteArray.empty, ByteArray.empty, x14.n_, x14.roles, 0⟩ : GFact)]).bind fun l17 =>
   k l17)
def z1_ (_ : Nat) (_ : GRoles) (st : List GFact) : Option (List GFact) :=
 match st with
 | t320 => some t320
theorem km_ (n : Nat) (t0 : GRoles) (hx : t0.dsd.length < 4611686018427387904) (c : Nat) (st : List GFact) (ix : Nat) (hi : ix ≤ t0.dsd.length) (hc : t0.dsd.length - ix < c) : jF_ n t0 c (match st, (ix : Int) with | t320, ix => (t320, ix)) = jg_ (x1_ n t0) (z1_ n t0) (t0.dsd.drop ix) st :=
 q0_ (fun c st ix => jF_ n t0 c (match st, ix with | t320, ix => (t320, ix))) t0.dsd (x1_ n t0) (z1_ n t0) (fun _ _ _ => rfl) hx c st ix hi hc
def jG_ (n : Nat) (t0 : GRoles) : Nat → (List GFact × Int) → Option (List GFact)
 | 0, _ => none
 | c + 1, (t323, t137) =>
  (if (decide (t137 < (t0.sessions.length : Int))) then
   (idx t0.sessions t137).bind fun x16 =>
   (if (decide (x16.roles.length = 0)) then
    (app t323 [(⟨8, x16.name, x16.user, ByteArray.empty, 0, [], 0⟩ : GFact)]).bind fun l20 =>
    jG_ n t0 c (l20, (IntKind.i64.wrap (t137 + 1)))
   else
    grd (decide (x16.roles.length ≤ 4294967296)) <|
    (app t323 [(⟨8, x16.name, x16.user, ByteArray.empty, 0, x16.roles, 0⟩ : GFact)]).bind fun l21 =>
    jG_ n t0 c (l21, (IntKind.i64.wrap (t137 + 1))))
  else
   some t323)
def x2_ (_ : Nat) (_ : GRoles) (st : List GFact) (x16 : GSession) (k : List GFact → Option (List GFact)) : Option (List GFact) :=
 match st with
 | t323 =>
  (if (decide (x16.roles.length = 0)) then
   (app t323 [(⟨8, x16.name, x16.user, ByteArray.empty, 0, [], 0⟩ : GFact)]).bind fun l20 =>
   k l20
  else
   grd (decide (x16.roles.length ≤ 4294967296)) <|
   (app t323 [(⟨8, x16.name, x16.user, ByteArray.empty, 0, x16.roles, 0⟩ : GFact)]).bind fun l21 =>
   k l21)
def z2_ (_ : Nat) (_ : GRoles) (st : List GFact) : Option (List GFact) :=
 match st with
 | t323 => some t323
theorem kn_ (n : Nat) (t0 : GRoles) (hx : t0.sessions.length < 4611686018427387904) (c : Nat) (st : List GFact) (ix : Nat) (hi : ix ≤ t0.sessions.length) (hc : t0.sessions.length - ix < c) : jG_ n t0 c (match st, (ix : Int) with | t323, ix => (t323, ix)) = jg_ (x2_ n t0) (z2_ n t0) (t0.sessions.drop ix) st :=
 q0_ (fun c st ix => jG_ n t0 c (match st, ix with | t323, ix => (t323, ix))) t0.sessions (x2_ n t0) (z2_ n t0) (fun _ _ _ => rfl) hx c st ix hi hc
def zE_ (n : Nat) (t0 : GRoles) : Option (List GFact) :=
 (
  j5_ n t0 n ([], 0) : Option (List GFact)).bind fun t33 =>
 (
  j6_ n t0 n (t33, 0) : Option (List GFact)).bind fun t37 =>
 (
  j7_ n t0 n (t37, 0) : Option (List GFact)).bind fun t310 =>
 (
  j8_ n t0 n (t310, 0) : Option (List GFact)).bind fun t313 =>
 (
  j9_ n t0 n (t313, 0) : Option (List GFact)).bind fun t316 =>
 (
  jE_ n t0 n (t316, 0) : Option (List GFact)).bind fun t319 =>
 (
  jF_ n t0 n (t319, 0) : Option (List GFact)).bind fun t322 =>
 (
  jG_ n t0 n (t322, 0) : Option (List GFact)).bind fun t325 =>
 some t325
set_option maxHeartbeats 8000000 in
theorem ko_ {n : Nat} {t0 : GRoles} {r : List GFact} (H : zE_ n t0 = some r) : PureOK Tryz.prog 16 [D.ag (eGRoles t0)] (D.sl (List.map eGFact r)) true := by
 unfold zE_ at H;refine ZP qo_ fol (rs := #[.tmp 2]) Tryz.func16 ?_;refine zsq (ZT 1 ?_);refine Z0 ?_;refine zsq (ZT 1 ?_);refine Z0 ?_;refine zsq (zsq ?_);refine ZT 1 ?_;refine Z0 ?_;obtain ⟨e_, E1, H2⟩ := zbi H
 refine zjn (α := { y : List GFact // e_ = y } × Nat) (fun | ⟨⟨t33, _⟩, g3⟩ => ⟨upd 1 (.pt 0 0) (upd 3 (accV 1 g3 (List.map eGFact t33)) noFr), upd 0 (some (.bx [.d (.sl (List.map eS t0.users)) true, .d (.sl (List.map eS t0.roles)) true, .d (.sl (List.map eGPair t0.inherit)) true, .d (.sl (List.map eGPair t0.assign)) true, .d (.sl (List.map eGGrant t0.grants)) true, .d (.sl (List.map eGSod t0.ssd)) true, .d (.sl (List.map eGSod t0.dsd)) true, .d (.sl (List.map eGSession t0.sessions)) true])) (upd 1 (accO 7 g3 false (List.map eGFact t33)) noHp), 2⟩) ?_ ?_
 ·refine zbk ?_
  refine zlp (α := { q : (Nat × (List GFact × Int)) × Nat // j5_ n t0 q.1.1 q.1.2 = some e_ }) (fun | ⟨⟨⟨c, ⟨t3, t23⟩⟩, g⟩, _⟩ => ⟨upd 1 (.pt 0 0) (upd 3 (accV 1 g (List.map eGFact t3)) (upd 21 (.d (.sl (List.map eS t0.users)) true) (upd 22 (.v (.int .i64 (t0.users.length : Int))) (upd 23 (.v (.int .i64 t23)) noFr)))), upd 0 (some (.bx [.d (.sl (List.map eS t0.users)) true, .d (.sl (List.map eS t0.roles)) true, .d (.sl (List.map eGPair t0.inherit)) true, .d (.sl (List.map eGPair t0.assign)) true, .d (.sl (List.map eGGrant t0.grants)) true, .d (.sl (List.map eGSod t0.ssd)) true, .d (.sl (List.map eGSod t0.dsd)) true, .d (.sl (List.map eGSession t0.sessions)) true])) (upd 1 (accO 7 g false (List.map eGFact t3)) noHp), 2⟩) (fun q => q.1.1.1) ⟨((n, ([], 0)), 0), E1⟩ ?_ ?_
  ·exact ZR [(0, 0)]
  ·rintro ⟨⟨⟨c, ⟨t3, t23⟩⟩, g⟩, L3⟩
   rcases c with _ | c
   ·exact Zx L3
   ·unfold j5_ at L3
    try dsimp only at L3
    refine ZT 1 ?_;refine Z0 ?_;rcases zit L3 with ⟨c12, H13⟩ | ⟨c12, H13⟩
    ·obtain ⟨x2, b14, H15⟩ := zbi H13
     obtain ⟨h16, h17⟩ := zix b14;try simp only [Int.reduceToNat, Int.toNat_natCast] at h17
     have h18 := qi_ eS h17;obtain ⟨l, b20, H21⟩ := zbi H15;obtain ⟨h22, h23⟩ := qj_ b20;have h22 : t3.length + 1 ≤ 4294967296 := h22;have h24 : List.map eGFact t3 ++ [[.v (.int .i64 1), .v (.string x2), .v (.string ByteArray.empty), .v (.string ByteArray.empty), .v (.int .i64 0), .sl [], .v (.int .i64 0)]] = List.map eGFact l := qm_ eGFact h23;have h25 : t3.length + 1 = l.length := qn_ h23
     have h26 : l.length ≤ 4294967296 := by omega
     have q27 : 0 < l.length := by omega
     refine Z1 (Y2 (Y6 c12 (zno .i64 h16) h18 h22 h24 h25) h26) ?_;rcases t3 with _ | ⟨q0, q1⟩
     ·try simp only [List.map_nil, accI, accN]
      exact ⟨⟨((c, (l, (IntKind.i64.wrap (t23 + 1)))), 0), H21⟩, ZR [(0, 0), (1, 10)], Nat.lt_succ_self _⟩
     ·try simp only [List.map_cons, accI, accN]
      exact ⟨⟨((c, (l, (IntKind.i64.wrap (t23 + 1)))), (g + 1)), H21⟩, ZR [(0, 0), (1, 1)], Nat.lt_succ_self _⟩
    ·refine Z1 c12 ?_
     obtain rfl := Zi H13;exact ⟨⟨⟨t3, rfl⟩, g⟩, ZR [(0, 0), (1, 1)]⟩
 ·rintro ⟨⟨t33, he382⟩, g3⟩
  obtain rfl := he382.symm;try dsimp only at H2
  refine zsq (zsq ?_);refine ZT 1 ?_;refine Z0 ?_;obtain ⟨e_2, E28, H29⟩ := zbi H2
  refine zjn (α := { y : List GFact // e_2 = y } × Nat) (fun | ⟨⟨t37, _⟩, g7⟩ => ⟨upd 1 (.pt 0 0) (upd 3 (accV 1 g7 (List.map eGFact t37)) noFr), upd 0 (some (.bx [.d (.sl (List.map eS t0.users)) true, .d (.sl (List.map eS t0.roles)) true, .d (.sl (List.map eGPair t0.inherit)) true, .d (.sl (List.map eGPair t0.assign)) true, .d (.sl (List.map eGGrant t0.grants)) true, .d (.sl (List.map eGSod t0.ssd)) true, .d (.sl (List.map eGSod t0.dsd)) true, .d (.sl (List.map eGSession t0.sessions)) true])) (upd 1 (accO 7 g7 false (List.map eGFact t37)) noHp), 2⟩) ?_ ?_
  ·refine zbk ?_
   refine zlp (α := { q : (Nat × (List GFact × Int)) × Nat // j6_ n t0 q.1.1 q.1.2 = some e_2 }) (fun | ⟨⟨⟨c, ⟨t34, t36⟩⟩, g5⟩, _⟩ => ⟨upd 1 (.pt 0 0) (upd 3 (accV 1 g5 (List.map eGFact t34)) (upd 34 (.d (.sl (List.map eS t0.roles)) true) (upd 35 (.v (.int .i64 (t0.roles.length : Int))) (upd 36 (.v (.int .i64 t36)) noFr)))), upd 0 (some (.bx [.d (.sl (List.map eS t0.users)) true, .d (.sl (List.map eS t0.roles)) true, .d (.sl (List.map eGPair t0.inherit)) true, .d (.sl (List.map eGPair t0.assign)) true, .d (.sl (List.map eGGrant t0.grants)) true, .d (.sl (List.map eGSod t0.ssd)) true, .d (.sl (List.map eGSod t0.dsd)) true, .d (.sl (List.map eGSession t0.sessions)) true])) (upd 1 (accO 7 g5 false (List.map eGFact t34)) noHp), 2⟩) (fun q => q.1.1.1) ⟨((n, (t33, 0)), g3), E28⟩ ?_ ?_
   ·exact ZR [(0, 0), (1, 1)]
   ·rintro ⟨⟨⟨c, ⟨t34, t36⟩⟩, g5⟩, L30⟩
    rcases c with _ | c
    ·exact Zx L30
    ·unfold j6_ at L30
     try dsimp only at L30
     refine ZT 1 ?_;refine Z0 ?_;rcases zit L30 with ⟨c47, H48⟩ | ⟨c47, H48⟩
     ·obtain ⟨x4, b49, H50⟩ := zbi H48
      obtain ⟨h51, h52⟩ := zix b49;try simp only [Int.reduceToNat, Int.toNat_natCast] at h52
      have h53 := qi_ eS h52;obtain ⟨l3, b55, H56⟩ := zbi H50;obtain ⟨h57, h58⟩ := qj_ b55;have h57 : t34.length + 1 ≤ 4294967296 := h57;have h59 : List.map eGFact t34 ++ [[.v (.int .i64 2), .v (.string x4), .v (.string ByteArray.empty), .v (.string ByteArray.empty), .v (.int .i64 0), .sl [], .v (.int .i64 0)]] = List.map eGFact l3 := qm_ eGFact h58
      have h60 : t34.length + 1 = l3.length := qn_ h58;have h61 : l3.length ≤ 4294967296 := by omega
      have q62 : 0 < l3.length := by omega
      refine Z1 (Y2 (Y6 c47 (zno .i64 h51) h53 h57 h59 h60) h61) ?_;rcases t34 with _ | ⟨q0, q1⟩
      ·try simp only [List.map_nil, accI, accN]
       exact ⟨⟨((c, (l3, (IntKind.i64.wrap (t36 + 1)))), 0), H56⟩, ZR [(0, 0), (1, 10)], Nat.lt_succ_self _⟩
      ·try simp only [List.map_cons, accI, accN]
       exact ⟨⟨((c, (l3, (IntKind.i64.wrap (t36 + 1)))), (g5 + 1)), H56⟩, ZR [(0, 0), (1, 1)], Nat.lt_succ_self _⟩
     ·refine Z1 c47 ?_
      obtain rfl := Zi H48;exact ⟨⟨⟨t34, rfl⟩, g5⟩, ZR [(0, 0), (1, 1)]⟩
  ·rintro ⟨⟨t37, he381⟩, g7⟩
   obtain rfl := he381.symm;try dsimp only at H29
   refine zsq (zsq ?_);refine ZT 1 ?_;refine Z0 ?_;obtain ⟨e_3, E63, H64⟩ := zbi H29
   refine zjn (α := { y : List GFact // e_3 = y } × Nat) (fun | ⟨⟨t310, _⟩, g11⟩ => ⟨upd 1 (.pt 0 0) (upd 3 (accV 1 g11 (List.map eGFact t310)) noFr), upd 0 (some (.bx [.d (.sl (List.map eS t0.users)) true, .d (.sl (List.map eS t0.roles)) true, .d (.sl (List.map eGPair t0.inherit)) true, .d (.sl (List.map eGPair t0.assign)) true, .d (.sl (List.map eGGrant t0.grants)) true, .d (.sl (List.map eGSod t0.ssd)) true, .d (.sl (List.map eGSod t0.dsd)) true, .d (.sl (List.map eGSession t0.sessions)) true])) (upd 1 (accO 7 g11 false (List.map eGFact t310)) noHp), 2⟩) ?_ ?_
   ·refine zbk ?_
    refine zlp (α := { q : (Nat × (List GFact × Int)) × Nat // j7_ n t0 q.1.1 q.1.2 = some e_3 }) (fun | ⟨⟨⟨c, ⟨t38, t49⟩⟩, g9⟩, _⟩ => ⟨upd 1 (.pt 0 0) (upd 3 (accV 1 g9 (List.map eGFact t38)) (upd 47 (.d (.sl (List.map eGPair t0.inherit)) true) (upd 48 (.v (.int .i64 (t0.inherit.length : Int))) (upd 49 (.v (.int .i64 t49)) noFr)))), upd 0 (some (.bx [.d (.sl (List.map eS t0.users)) true, .d (.sl (List.map eS t0.roles)) true, .d (.sl (List.map eGPair t0.inherit)) true, .d (.sl (List.map eGPair t0.assign)) true, .d (.sl (List.map eGGrant t0.grants)) true, .d (.sl (List.map eGSod t0.ssd)) true, .d (.sl (List.map eGSod t0.dsd)) true, .d (.sl (List.map eGSession t0.sessions)) true])) (upd 1 (accO 7 g9 false (List.map eGFact t38)) noHp), 2⟩) (fun q => q.1.1.1) ⟨((n, (t37, 0)), g7), E63⟩ ?_ ?_
    ·exact ZR [(0, 0), (1, 1)]
    ·rintro ⟨⟨⟨c, ⟨t38, t49⟩⟩, g9⟩, L65⟩
     rcases c with _ | c
     ·exact Zx L65
     ·unfold j7_ at L65
      try dsimp only at L65
      refine ZT 1 ?_;refine Z0 ?_;rcases zit L65 with ⟨c82, H83⟩ | ⟨c82, H83⟩
      ·obtain ⟨x6, b84, H85⟩ := zbi H83
       obtain ⟨h86, h87⟩ := zix b84;try simp only [Int.reduceToNat, Int.toNat_natCast] at h87
       have h88 := qi_ eGPair h87;obtain ⟨l5, b90, H91⟩ := zbi H85;obtain ⟨h92, h93⟩ := qj_ b90;have h92 : t38.length + 1 ≤ 4294967296 := h92;have h94 : List.map eGFact t38 ++ [[.v (.int .i64 3), .v (.string x6.a), .v (.string x6.b), .v (.string ByteArray.empty), .v (.int .i64 0), .sl [], .v (.int .i64 0)]] = List.map eGFact l5 := qm_ eGFact h93
       have h95 : t38.length + 1 = l5.length := qn_ h93;have h96 : l5.length ≤ 4294967296 := by omega
       have q97 : 0 < l5.length := by omega
       refine Z1 (Y2 (Y6 c82 (zno .i64 h86) h88 h92 h94 h95) h96) ?_;rcases t38 with _ | ⟨q0, q1⟩
       ·try simp only [List.map_nil, accI, accN]
        exact ⟨⟨((c, (l5, (IntKind.i64.wrap (t49 + 1)))), 0), H91⟩, ZR [(0, 0), (1, 14)], Nat.lt_succ_self _⟩
       ·try simp only [List.map_cons, accI, accN]
        exact ⟨⟨((c, (l5, (IntKind.i64.wrap (t49 + 1)))), (g9 + 1)), H91⟩, ZR [(0, 0), (1, 1)], Nat.lt_succ_self _⟩
      ·refine Z1 c82 ?_
       obtain rfl := Zi H83;exact ⟨⟨⟨t38, rfl⟩, g9⟩, ZR [(0, 0), (1, 1)]⟩
   ·rintro ⟨⟨t310, he380⟩, g11⟩
    obtain rfl := he380.symm;try dsimp only at H64
    refine zsq (zsq ?_);refine ZT 1 ?_;refine Z0 ?_;obtain ⟨e_4, E98, H99⟩ := zbi H64
    refine zjn (α := { y : List GFact // e_4 = y } × Nat) (fun | ⟨⟨t313, _⟩, g15⟩ => ⟨upd 1 (.pt 0 0) (upd 3 (accV 1 g15 (List.map eGFact t313)) noFr), upd 0 (some (.bx [.d (.sl (List.map eS t0.users)) true, .d (.sl (List.map eS t0.roles)) true, .d (.sl (List.map eGPair t0.inherit)) true, .d (.sl (List.map eGPair t0.assign)) true, .d (.sl (List.map eGGrant t0.grants)) true, .d (.sl (List.map eGSod t0.ssd)) true, .d (.sl (List.map eGSod t0.dsd)) true, .d (.sl (List.map eGSession t0.sessions)) true])) (upd 1 (accO 7 g15 false (List.map eGFact t313)) noHp), 2⟩) ?_ ?_
    ·refine zbk ?_
     refine zlp (α := { q : (Nat × (List GFact × Int)) × Nat // j8_ n t0 q.1.1 q.1.2 = some e_4 }) (fun | ⟨⟨⟨c, ⟨t311, t65⟩⟩, g13⟩, _⟩ => ⟨upd 1 (.pt 0 0) (upd 3 (accV 1 g13 (List.map eGFact t311)) (upd 63 (.d (.sl (List.map eGPair t0.assign)) true) (upd 64 (.v (.int .i64 (t0.assign.length : Int))) (upd 65 (.v (.int .i64 t65)) noFr)))), upd 0 (some (.bx [.d (.sl (List.map eS t0.users)) true, .d (.sl (List.map eS t0.roles)) true, .d (.sl (List.map eGPair t0.inherit)) true, .d (.sl (List.map eGPair t0.assign)) true, .d (.sl (List.map eGGrant t0.grants)) true, .d (.sl (List.map eGSod t0.ssd)) true, .d (.sl (List.map eGSod t0.dsd)) true, .d (.sl (List.map eGSession t0.sessions)) true])) (upd 1 (accO 7 g13 false (List.map eGFact t311)) noHp), 2⟩) (fun q => q.1.1.1) ⟨((n, (t310, 0)), g11), E98⟩ ?_ ?_
     ·exact ZR [(0, 0), (1, 1)]
     ·rintro ⟨⟨⟨c, ⟨t311, t65⟩⟩, g13⟩, L100⟩
      rcases c with _ | c
      ·exact Zx L100
      ·unfold j8_ at L100
       try dsimp only at L100
       refine ZT 1 ?_;refine Z0 ?_;rcases zit L100 with ⟨c117, H118⟩ | ⟨c117, H118⟩
       ·obtain ⟨x8, b119, H120⟩ := zbi H118
        obtain ⟨h121, h122⟩ := zix b119;try simp only [Int.reduceToNat, Int.toNat_natCast] at h122
        have h123 := qi_ eGPair h122;obtain ⟨l7, b125, H126⟩ := zbi H120;obtain ⟨h127, h128⟩ := qj_ b125;have h127 : t311.length + 1 ≤ 4294967296 := h127;have h129 : List.map eGFact t311 ++ [[.v (.int .i64 4), .v (.string x8.a), .v (.string x8.b), .v (.string ByteArray.empty), .v (.int .i64 0), .sl [], .v (.int .i64 0)]] = List.map eGFact l7 := qm_ eGFact h128
        have h130 : t311.length + 1 = l7.length := qn_ h128;have h131 : l7.length ≤ 4294967296 := by omega
        have q132 : 0 < l7.length := by omega
        refine Z1 (Y2 (Y6 c117 (zno .i64 h121) h123 h127 h129 h130) h131) ?_;rcases t311 with _ | ⟨q0, q1⟩
        ·try simp only [List.map_nil, accI, accN]
         exact ⟨⟨((c, (l7, (IntKind.i64.wrap (t65 + 1)))), 0), H126⟩, ZR [(0, 0), (1, 14)], Nat.lt_succ_self _⟩
        ·try simp only [List.map_cons, accI, accN]
         exact ⟨⟨((c, (l7, (IntKind.i64.wrap (t65 + 1)))), (g13 + 1)), H126⟩, ZR [(0, 0), (1, 1)], Nat.lt_succ_self _⟩
       ·refine Z1 c117 ?_
        obtain rfl := Zi H118;exact ⟨⟨⟨t311, rfl⟩, g13⟩, ZR [(0, 0), (1, 1)]⟩
    ·rintro ⟨⟨t313, he379⟩, g15⟩
     obtain rfl := he379.symm;try dsimp only at H99
     refine zsq (zsq ?_);refine ZT 1 ?_;refine Z0 ?_;obtain ⟨e_5, E133, H134⟩ := zbi H99
     refine zjn (α := { y : List GFact // e_5 = y } × Nat) (fun | ⟨⟨t316, _⟩, g19⟩ => ⟨upd 1 (.pt 0 0) (upd 3 (accV 1 g19 (List.map eGFact t316)) noFr), upd 0 (some (.bx [.d (.sl (List.map eS t0.users)) true, .d (.sl (List.map eS t0.roles)) true, .d (.sl (List.map eGPair t0.inherit)) true, .d (.sl (List.map eGPair t0.assign)) true, .d (.sl (List.map eGGrant t0.grants)) true, .d (.sl (List.map eGSod t0.ssd)) true, .d (.sl (List.map eGSod t0.dsd)) true, .d (.sl (List.map eGSession t0.sessions)) true])) (upd 1 (accO 7 g19 false (List.map eGFact t316)) noHp), 2⟩) ?_ ?_
     ·refine zbk ?_
      refine zlp (α := { q : (Nat × (List GFact × Int)) × Nat // j9_ n t0 q.1.1 q.1.2 = some e_5 }) (fun | ⟨⟨⟨c, ⟨t314, t81⟩⟩, g17⟩, _⟩ => ⟨upd 1 (.pt 0 0) (upd 3 (accV 1 g17 (List.map eGFact t314)) (upd 79 (.d (.sl (List.map eGGrant t0.grants)) true) (upd 80 (.v (.int .i64 (t0.grants.length : Int))) (upd 81 (.v (.int .i64 t81)) noFr)))), upd 0 (some (.bx [.d (.sl (List.map eS t0.users)) true, .d (.sl (List.map eS t0.roles)) true, .d (.sl (List.map eGPair t0.inherit)) true, .d (.sl (List.map eGPair t0.assign)) true, .d (.sl (List.map eGGrant t0.grants)) true, .d (.sl (List.map eGSod t0.ssd)) true, .d (.sl (List.map eGSod t0.dsd)) true, .d (.sl (List.map eGSession t0.sessions)) true])) (upd 1 (accO 7 g17 false (List.map eGFact t314)) noHp), 2⟩) (fun q => q.1.1.1) ⟨((n, (t313, 0)), g15), E133⟩ ?_ ?_
      ·exact ZR [(0, 0), (1, 1)]
      ·rintro ⟨⟨⟨c, ⟨t314, t81⟩⟩, g17⟩, L135⟩
       rcases c with _ | c
       ·exact Zx L135
       ·unfold j9_ at L135
        try dsimp only at L135
        refine ZT 1 ?_;refine Z0 ?_;rcases zit L135 with ⟨c152, H153⟩ | ⟨c152, H153⟩
        ·obtain ⟨x10, b154, H155⟩ := zbi H153
         obtain ⟨h156, h157⟩ := zix b154;try simp only [Int.reduceToNat, Int.toNat_natCast] at h157
         have h158 := qi_ eGGrant h157;obtain ⟨l9, b160, H161⟩ := zbi H155;obtain ⟨h162, h163⟩ := qj_ b160;have h162 : t314.length + 1 ≤ 4294967296 := h162;have h164 : List.map eGFact t314 ++ [[.v (.int .i64 5), .v (.string x10.role), .v (.string x10.op), .v (.string x10.obj), .v (.int .i64 0), .sl [], .v (.int .i64 0)]] = List.map eGFact l9 := qm_ eGFact h163
         have h165 : t314.length + 1 = l9.length := qn_ h163;have h166 : l9.length ≤ 4294967296 := by omega
         have q167 : 0 < l9.length := by omega
         refine Z1 (Y2 (Y6 c152 (zno .i64 h156) h158 h162 h164 h165) h166) ?_;rcases t314 with _ | ⟨q0, q1⟩
         ·try simp only [List.map_nil, accI, accN]
          exact ⟨⟨((c, (l9, (IntKind.i64.wrap (t81 + 1)))), 0), H161⟩, ZR [(0, 0), (1, 16)], Nat.lt_succ_self _⟩
         ·try simp only [List.map_cons, accI, accN]
          exact ⟨⟨((c, (l9, (IntKind.i64.wrap (t81 + 1)))), (g17 + 1)), H161⟩, ZR [(0, 0), (1, 1)], Nat.lt_succ_self _⟩
        ·refine Z1 c152 ?_
         obtain rfl := Zi H153;exact ⟨⟨⟨t314, rfl⟩, g17⟩, ZR [(0, 0), (1, 1)]⟩
     ·rintro ⟨⟨t316, he378⟩, g19⟩
      obtain rfl := he378.symm;try dsimp only at H134
      refine zsq (zsq ?_);refine ZT 1 ?_;refine Z0 ?_;obtain ⟨e_6, E168, H169⟩ := zbi H134
      refine zjn (α := { y : List GFact // e_6 = y } × Nat) (fun | ⟨⟨t319, _⟩, g23⟩ => ⟨upd 1 (.pt 0 0) (upd 3 (accV 1 g23 (List.map eGFact t319)) noFr), upd 0 (some (.bx [.d (.sl (List.map eS t0.users)) true, .d (.sl (List.map eS t0.roles)) true, .d (.sl (List.map eGPair t0.inherit)) true, .d (.sl (List.map eGPair t0.assign)) true, .d (.sl (List.map eGGrant t0.grants)) true, .d (.sl (List.map eGSod t0.ssd)) true, .d (.sl (List.map eGSod t0.dsd)) true, .d (.sl (List.map eGSession t0.sessions)) true])) (upd 1 (accO 7 g23 false (List.map eGFact t319)) noHp), 2⟩) ?_ ?_
      ·refine zbk ?_
       refine zlp (α := { q : (Nat × (List GFact × Int)) × Nat // jE_ n t0 q.1.1 q.1.2 = some e_6 }) (fun | ⟨⟨⟨c, ⟨t317, t99⟩⟩, g21⟩, _⟩ => ⟨upd 1 (.pt 0 0) (upd 3 (accV 1 g21 (List.map eGFact t317)) (upd 97 (.d (.sl (List.map eGSod t0.ssd)) true) (upd 98 (.v (.int .i64 (t0.ssd.length : Int))) (upd 99 (.v (.int .i64 t99)) noFr)))), upd 0 (some (.bx [.d (.sl (List.map eS t0.users)) true, .d (.sl (List.map eS t0.roles)) true, .d (.sl (List.map eGPair t0.inherit)) true, .d (.sl (List.map eGPair t0.assign)) true, .d (.sl (List.map eGGrant t0.grants)) true, .d (.sl (List.map eGSod t0.ssd)) true, .d (.sl (List.map eGSod t0.dsd)) true, .d (.sl (List.map eGSession t0.sessions)) true])) (upd 1 (accO 7 g21 false (List.map eGFact t317)) noHp), 2⟩) (fun q => q.1.1.1) ⟨((n, (t316, 0)), g19), E168⟩ ?_ ?_
       ·exact ZR [(0, 0), (1, 1)]
       ·rintro ⟨⟨⟨c, ⟨t317, t99⟩⟩, g21⟩, L170⟩
        rcases c with _ | c
        ·exact Zx L170
        ·unfold jE_ at L170
         try dsimp only at L170
         refine ZT 1 ?_;refine Z0 ?_;rcases zit L170 with ⟨c204, H205⟩ | ⟨c204, H205⟩
         ·obtain ⟨x12, b206, H207⟩ := zbi H205
          obtain ⟨h208, h209⟩ := zix b206;try simp only [Int.reduceToNat, Int.toNat_natCast] at h209
          have h210 := qi_ eGSod h209;refine Z1 (Y3 c204 (zno .i64 h208) h210) ?_;rcases zit H207 with ⟨c212, H213⟩ | ⟨c212, H213⟩
          ·refine Z1 (Y4 c204 (zno .i64 h208) h210 c212) ?_
           refine ZD0 (gb_ x12.roles c212) ?_;obtain ⟨l12, b214, H215⟩ := zbi H213;obtain ⟨h216, h217⟩ := qj_ b214;have h216 : t317.length + 1 ≤ 4294967296 := h216
           have h218 : List.map eGFact t317 ++ [[.v (.int .i64 6), .v (.string x12.name), .v (.string ByteArray.empty), .v (.string ByteArray.empty), .v (.int .i64 x12.n_), .sl [], .v (.int .i64 0)]] = List.map eGFact l12 := qm_ eGFact h217;have h219 : t317.length + 1 = l12.length := qn_ h217;have h220 : l12.length ≤ 4294967296 := by omega
           have q221 : 0 < l12.length := by omega
           refine Z1 (Y2 (Y6 c204 (zno .i64 h208) h210 c212 h216 h218) (Y2 h219 h220)) ?_;refine qf_ (by (cases t317 <;> rfl)) ?_;refine Z1 (Y2 (Y6 c204 (zno .i64 h208) h210 c212 h216 h218) (Y2 h219 h220)) ?_;rcases t317 with _ | ⟨q0, q1⟩
           ·try simp only [List.map_nil, accI, accN]
            exact ⟨⟨((c, (l12, (IntKind.i64.wrap (t99 + 1)))), 0), H215⟩, ZR [(0, 0), (1, 17)], Nat.lt_succ_self _⟩
           ·try simp only [List.map_cons, accI, accN]
            exact ⟨⟨((c, (l12, (IntKind.i64.wrap (t99 + 1)))), (g21 + 1)), H215⟩, ZR [(0, 0), (1, 1)], Nat.lt_succ_self _⟩
          ·obtain ⟨g222, H223⟩ := xE_ H213
           have h224 : x12.roles.length ≤ 4294967296 := of_decide_eq_true g222;have q225 : 0 < x12.roles.length := by have := of_decide_eq_false c212; omega
           refine Z1 (Y4 c204 (zno .i64 h208) h210 c212) ?_;refine x9_ (ids' := []) (v := .so 22 1 0 x12.roles.length) (δ := [(22, .rw (List.map eS x12.roles) 1 1 false false)]) (nx' := 26) (fun hp1 _ => InlOK.mono (kN_ x12.roles q225 h224) fun v2 hp2 nx2 e => e) ?_;obtain ⟨l13, b229, H230⟩ := zbi H223;obtain ⟨h231, h232⟩ := qj_ b229;have h231 : t317.length + 1 ≤ 4294967296 := h231
           have h233 : List.map eGFact t317 ++ [[.v (.int .i64 6), .v (.string x12.name), .v (.string ByteArray.empty), .v (.string ByteArray.empty), .v (.int .i64 x12.n_), .sl (List.map eS x12.roles), .v (.int .i64 0)]] = List.map eGFact l13 := qm_ eGFact h232;have h234 : t317.length + 1 = l13.length := qn_ h232;have h235 : l13.length ≤ 4294967296 := by omega
           have q236 : 0 < l13.length := by omega
           refine Z1 (Y2 (Y6 c204 (zno .i64 h208) h210 c212 h224 h231) (Y3 h233 h234 h235)) ?_;refine qf_ (by (cases t317 <;> rfl)) ?_;refine Z1 (Y2 (Y6 c204 (zno .i64 h208) h210 c212 h224 h231) (Y3 h233 h234 h235)) ?_;rcases t317 with _ | ⟨q0, q1⟩
           ·try simp only [List.map_nil, accI, accN]
            exact ⟨⟨((c, (l13, (IntKind.i64.wrap (t99 + 1)))), 0), H230⟩, ZR [(0, 0), (1, 17)], Nat.lt_succ_self _⟩
           ·try simp only [List.map_cons, accI, accN]
            exact ⟨⟨((c, (l13, (IntKind.i64.wrap (t99 + 1)))), (g21 + 1)), H230⟩, ZR [(0, 0), (1, 1)], Nat.lt_succ_self _⟩
         ·refine Z1 c204 ?_
          obtain rfl := Zi H205;exact ⟨⟨⟨t317, rfl⟩, g21⟩, ZR [(0, 0), (1, 1)]⟩
      ·rintro ⟨⟨t319, he377⟩, g23⟩
       obtain rfl := he377.symm;try dsimp only at H169
       refine zsq (zsq ?_);refine ZT 1 ?_;refine Z0 ?_;obtain ⟨e_7, E237, H238⟩ := zbi H169
       refine zjn (α := { y : List GFact // e_7 = y } × Nat) (fun | ⟨⟨t322, _⟩, g27⟩ => ⟨upd 1 (.pt 0 0) (upd 3 (accV 1 g27 (List.map eGFact t322)) noFr), upd 0 (some (.bx [.d (.sl (List.map eS t0.users)) true, .d (.sl (List.map eS t0.roles)) true, .d (.sl (List.map eGPair t0.inherit)) true, .d (.sl (List.map eGPair t0.assign)) true, .d (.sl (List.map eGGrant t0.grants)) true, .d (.sl (List.map eGSod t0.ssd)) true, .d (.sl (List.map eGSod t0.dsd)) true, .d (.sl (List.map eGSession t0.sessions)) true])) (upd 1 (accO 7 g27 false (List.map eGFact t322)) noHp), 2⟩) ?_ ?_
       ·refine zbk ?_
        refine zlp (α := { q : (Nat × (List GFact × Int)) × Nat // jF_ n t0 q.1.1 q.1.2 = some e_7 }) (fun | ⟨⟨⟨c, ⟨t320, t118⟩⟩, g25⟩, _⟩ => ⟨upd 1 (.pt 0 0) (upd 3 (accV 1 g25 (List.map eGFact t320)) (upd 116 (.d (.sl (List.map eGSod t0.dsd)) true) (upd 117 (.v (.int .i64 (t0.dsd.length : Int))) (upd 118 (.v (.int .i64 t118)) noFr)))), upd 0 (some (.bx [.d (.sl (List.map eS t0.users)) true, .d (.sl (List.map eS t0.roles)) true, .d (.sl (List.map eGPair t0.inherit)) true, .d (.sl (List.map eGPair t0.assign)) true, .d (.sl (List.map eGGrant t0.grants)) true, .d (.sl (List.map eGSod t0.ssd)) true, .d (.sl (List.map eGSod t0.dsd)) true, .d (.sl (List.map eGSession t0.sessions)) true])) (upd 1 (accO 7 g25 false (List.map eGFact t320)) noHp), 2⟩) (fun q => q.1.1.1) ⟨((n, (t319, 0)), g23), E237⟩ ?_ ?_
        ·exact ZR [(0, 0), (1, 1)]
        ·rintro ⟨⟨⟨c, ⟨t320, t118⟩⟩, g25⟩, L239⟩
         rcases c with _ | c
         ·exact Zx L239
         ·unfold jF_ at L239
          try dsimp only at L239
          refine ZT 1 ?_;refine Z0 ?_;rcases zit L239 with ⟨c273, H274⟩ | ⟨c273, H274⟩
          ·obtain ⟨x14, b275, H276⟩ := zbi H274
           obtain ⟨h277, h278⟩ := zix b275;try simp only [Int.reduceToNat, Int.toNat_natCast] at h278
           have h279 := qi_ eGSod h278;refine Z1 (Y3 c273 (zno .i64 h277) h279) ?_;rcases zit H276 with ⟨c281, H282⟩ | ⟨c281, H282⟩
           ·refine Z1 (Y4 c273 (zno .i64 h277) h279 c281) ?_
            refine ZD0 (gb_ x14.roles c281) ?_;obtain ⟨l16, b283, H284⟩ := zbi H282;obtain ⟨h285, h286⟩ := qj_ b283;have h285 : t320.length + 1 ≤ 4294967296 := h285
            have h287 : List.map eGFact t320 ++ [[.v (.int .i64 7), .v (.string x14.name), .v (.string ByteArray.empty), .v (.string ByteArray.empty), .v (.int .i64 x14.n_), .sl [], .v (.int .i64 0)]] = List.map eGFact l16 := qm_ eGFact h286;have h288 : t320.length + 1 = l16.length := qn_ h286;have h289 : l16.length ≤ 4294967296 := by omega
            have q290 : 0 < l16.length := by omega
            refine Z1 (Y2 (Y6 c273 (zno .i64 h277) h279 c281 h285 h287) (Y2 h288 h289)) ?_;refine qf_ (by (cases t320 <;> rfl)) ?_;refine Z1 (Y2 (Y6 c273 (zno .i64 h277) h279 c281 h285 h287) (Y2 h288 h289)) ?_;rcases t320 with _ | ⟨q0, q1⟩
            ·try simp only [List.map_nil, accI, accN]
             exact ⟨⟨((c, (l16, (IntKind.i64.wrap (t118 + 1)))), 0), H284⟩, ZR [(0, 0), (1, 17)], Nat.lt_succ_self _⟩
            ·try simp only [List.map_cons, accI, accN]
             exact ⟨⟨((c, (l16, (IntKind.i64.wrap (t118 + 1)))), (g25 + 1)), H284⟩, ZR [(0, 0), (1, 1)], Nat.lt_succ_self _⟩
           ·obtain ⟨g291, H292⟩ := xE_ H282
            have h293 : x14.roles.length ≤ 4294967296 := of_decide_eq_true g291;have q294 : 0 < x14.roles.length := by have := of_decide_eq_false c281; omega
            refine Z1 (Y4 c273 (zno .i64 h277) h279 c281) ?_;refine x9_ (ids' := []) (v := .so 22 1 0 x14.roles.length) (δ := [(22, .rw (List.map eS x14.roles) 1 1 false false)]) (nx' := 26) (fun hp1 _ => InlOK.mono (kN_ x14.roles q294 h293) fun v2 hp2 nx2 e => e) ?_;obtain ⟨l17, b298, H299⟩ := zbi H292;obtain ⟨h300, h301⟩ := qj_ b298;have h300 : t320.length + 1 ≤ 4294967296 := h300
            have h302 : List.map eGFact t320 ++ [[.v (.int .i64 7), .v (.string x14.name), .v (.string ByteArray.empty), .v (.string ByteArray.empty), .v (.int .i64 x14.n_), .sl (List.map eS x14.roles), .v (.int .i64 0)]] = List.map eGFact l17 := qm_ eGFact h301;have h303 : t320.length + 1 = l17.length := qn_ h301;have h304 : l17.length ≤ 4294967296 := by omega
            have q305 : 0 < l17.length := by omega
            refine Z1 (Y2 (Y6 c273 (zno .i64 h277) h279 c281 h293 h300) (Y3 h302 h303 h304)) ?_;refine qf_ (by (cases t320 <;> rfl)) ?_;refine Z1 (Y2 (Y6 c273 (zno .i64 h277) h279 c281 h293 h300) (Y3 h302 h303 h304)) ?_;rcases t320 with _ | ⟨q0, q1⟩
            ·try simp only [List.map_nil, accI, accN]
             exact ⟨⟨((c, (l17, (IntKind.i64.wrap (t118 + 1)))), 0), H299⟩, ZR [(0, 0), (1, 17)], Nat.lt_succ_self _⟩
            ·try simp only [List.map_cons, accI, accN]
             exact ⟨⟨((c, (l17, (IntKind.i64.wrap (t118 + 1)))), (g25 + 1)), H299⟩, ZR [(0, 0), (1, 1)], Nat.lt_succ_self _⟩
          ·refine Z1 c273 ?_
           obtain rfl := Zi H274;exact ⟨⟨⟨t320, rfl⟩, g25⟩, ZR [(0, 0), (1, 1)]⟩
       ·rintro ⟨⟨t322, he376⟩, g27⟩
        obtain rfl := he376.symm;try dsimp only at H238
        refine zsq (zsq ?_);refine ZT 1 ?_;refine Z0 ?_;obtain ⟨e_8, E306, H307⟩ := zbi H238;refine zjn (α := { y : List GFact // e_8 = y } × Nat) (fun | ⟨⟨t325, _⟩, g31⟩ => ⟨upd 3 (accV 0 g31 (List.map eGFact t325)) noFr, upd 0 (accO 7 g31 false (List.map eGFact t325)) noHp, 1⟩) ?_ ?_
        ·refine zbk ?_
         refine zlp (α := { q : (Nat × (List GFact × Int)) × Nat // jG_ n t0 q.1.1 q.1.2 = some e_8 }) (fun | ⟨⟨⟨c, ⟨t323, t137⟩⟩, g29⟩, _⟩ => ⟨upd 3 (accV 0 g29 (List.map eGFact t323)) (upd 135 (.d (.sl (List.map eGSession t0.sessions)) true) (upd 136 (.v (.int .i64 (t0.sessions.length : Int))) (upd 137 (.v (.int .i64 t137)) noFr))), upd 0 (accO 7 g29 false (List.map eGFact t323)) noHp, 1⟩) (fun q => q.1.1.1) ⟨((n, (t322, 0)), g27), E306⟩ ?_ ?_
         ·exact ZR [(0, 1)]
         ·rintro ⟨⟨⟨c, ⟨t323, t137⟩⟩, g29⟩, L308⟩
          rcases c with _ | c
          ·exact Zx L308
          ·unfold jG_ at L308
           try dsimp only at L308
           refine ZT 1 ?_;refine Z0 ?_;rcases zit L308 with ⟨c342, H343⟩ | ⟨c342, H343⟩
           ·obtain ⟨x16, b344, H345⟩ := zbi H343
            obtain ⟨h346, h347⟩ := zix b344;try simp only [Int.reduceToNat, Int.toNat_natCast] at h347
            have h348 := qi_ eGSession h347;refine Z1 (Y3 c342 (zno .i64 h346) h348) ?_;rcases zit H345 with ⟨c350, H351⟩ | ⟨c350, H351⟩
            ·refine Z1 (Y4 c342 (zno .i64 h346) h348 c350) ?_
             refine ZD0 (gb_ x16.roles c350) ?_;obtain ⟨l20, b352, H353⟩ := zbi H351;obtain ⟨h354, h355⟩ := qj_ b352;have h354 : t323.length + 1 ≤ 4294967296 := h354;have h356 : List.map eGFact t323 ++ [[.v (.int .i64 8), .v (.string x16.name), .v (.string x16.user), .v (.string ByteArray.empty), .v (.int .i64 0), .sl [], .v (.int .i64 0)]] = List.map eGFact l20 := qm_ eGFact h355
             have h357 : t323.length + 1 = l20.length := qn_ h355;have h358 : l20.length ≤ 4294967296 := by omega
             have q359 : 0 < l20.length := by omega
             refine Z1 (Y2 (Y6 c342 (zno .i64 h346) h348 c350 h354 h356) (Y2 h357 h358)) ?_;refine qf_ (by (cases t323 <;> rfl)) ?_;refine Z1 (Y2 (Y6 c342 (zno .i64 h346) h348 c350 h354 h356) (Y2 h357 h358)) ?_;rcases t323 with _ | ⟨q0, q1⟩
             ·try simp only [List.map_nil, accI, accN]
              exact ⟨⟨((c, (l20, (IntKind.i64.wrap (t137 + 1)))), 0), H353⟩, ZR [(0, 16)], Nat.lt_succ_self _⟩
             ·try simp only [List.map_cons, accI, accN]
              exact ⟨⟨((c, (l20, (IntKind.i64.wrap (t137 + 1)))), (g29 + 1)), H353⟩, ZR [(0, 0)], Nat.lt_succ_self _⟩
            ·obtain ⟨g360, H361⟩ := xE_ H351
             have h362 : x16.roles.length ≤ 4294967296 := of_decide_eq_true g360;have q363 : 0 < x16.roles.length := by have := of_decide_eq_false c350; omega
             refine Z1 (Y4 c342 (zno .i64 h346) h348 c350) ?_;refine x9_ (ids' := []) (v := .so 21 1 0 x16.roles.length) (δ := [(21, .rw (List.map eS x16.roles) 1 1 false false)]) (nx' := 25) (fun hp1 _ => InlOK.mono (kN_ x16.roles q363 h362) fun v2 hp2 nx2 e => e) ?_;obtain ⟨l21, b367, H368⟩ := zbi H361;obtain ⟨h369, h370⟩ := qj_ b367;have h369 : t323.length + 1 ≤ 4294967296 := h369
             have h371 : List.map eGFact t323 ++ [[.v (.int .i64 8), .v (.string x16.name), .v (.string x16.user), .v (.string ByteArray.empty), .v (.int .i64 0), .sl (List.map eS x16.roles), .v (.int .i64 0)]] = List.map eGFact l21 := qm_ eGFact h370;have h372 : t323.length + 1 = l21.length := qn_ h370;have h373 : l21.length ≤ 4294967296 := by omega
             have q374 : 0 < l21.length := by omega
             refine Z1 (Y2 (Y6 c342 (zno .i64 h346) h348 c350 h362 h369) (Y3 h371 h372 h373)) ?_;refine qf_ (by (cases t323 <;> rfl)) ?_;refine Z1 (Y2 (Y6 c342 (zno .i64 h346) h348 c350 h362 h369) (Y3 h371 h372 h373)) ?_;rcases t323 with _ | ⟨q0, q1⟩
             ·try simp only [List.map_nil, accI, accN]
              exact ⟨⟨((c, (l21, (IntKind.i64.wrap (t137 + 1)))), 0), H368⟩, ZR [(0, 16)], Nat.lt_succ_self _⟩
             ·try simp only [List.map_cons, accI, accN]
              exact ⟨⟨((c, (l21, (IntKind.i64.wrap (t137 + 1)))), (g29 + 1)), H368⟩, ZR [(0, 0)], Nat.lt_succ_self _⟩
           ·refine Z1 c342 ?_
            obtain rfl := Zi H343;exact ⟨⟨⟨t323, rfl⟩, g29⟩, ZR [(0, 0)]⟩
        ·rintro ⟨⟨t325, he375⟩, g31⟩
         obtain rfl := he375.symm;try dsimp only at H307
         refine ZT 1 ?_;refine Z0 ?_;obtain rfl := Zi H307;exact ZE0
def qM_ (n : Nat) (s : List ByteArray) (v : ByteArray) : Nat → Int → Option ((Unit) ⊕ Int)
 | 0, _ => none
 | c + 1, t8 =>
  (if (decide (t8 < (s.length : Int))) then
   (idx s t8).bind fun x2 =>
   (if (v.toList == x2.toList) then
    some (.inr t8)
   else
    qM_ n s v c (IntKind.i64.wrap (t8 + 1)))
  else
   some (.inl ()))
def xa_ (n : Nat) (s : List ByteArray) (v : ByteArray) : Option Int :=
 (
  qM_ n s v n 0 : Option ((Unit) ⊕ Int)).bind fun
  | .inl _ =>
   some (-1)
  | .inr r => some r
theorem v0_ {n : Nat} {s : List ByteArray} {v : ByteArray} {r : Int} (H : xa_ n s v = some r) : PureOK Tryz.prog 81 [D.sl (List.map eS s), D.v (.string v)] (D.v (.int .i64 r)) true := by
 unfold xa_ at H;refine ZP qo_ fol (rs := #[.tmp 4]) Tryz.func81 ?_;refine zsq (ZT 1 ?_);refine Z0 ?_;refine zsq (zsq ?_);refine ZT 1 ?_;refine Z0 ?_;obtain ⟨e_, E1, H2⟩ := zbi H;refine zjn (α := { y : Unit // e_ = .inl y }) (fun | ⟨_, _⟩ => ⟨noFr, noHp, 0⟩) ?_ ?_
 ·refine zbk ?_
  refine zlp (α := { q : Nat × Int // qM_ n s v q.1 q.2 = some e_ }) (fun | ⟨⟨c, t8⟩, _⟩ => ⟨upd 0 (.d (.sl (List.map eS s)) true) (upd 1 (.v (.string v)) (upd 7 (.v (.int .i64 (s.length : Int))) (upd 8 (.v (.int .i64 t8)) noFr))), noHp, 0⟩) (fun q => q.1.1) ⟨(n, 0), E1⟩ ?_ ?_
  ·exact ZR []
  ·rintro ⟨⟨c, t8⟩, L3⟩
   rcases c with _ | c
   ·exact Zx L3
   ·unfold qM_ at L3
    try dsimp only at L3
    refine ZT 1 ?_;refine Z0 ?_;rcases zit L3 with ⟨c14, H15⟩ | ⟨c14, H15⟩
    ·obtain ⟨x2, b16, H17⟩ := zbi H15
     obtain ⟨h18, h19⟩ := zix b16;try simp only [Int.reduceToNat, Int.toNat_natCast] at h19
     have h20 := qi_ eS h19;refine Z1 (Y3 c14 (zno .i64 h18) h20) ?_;rcases zit H17 with ⟨c22, H23⟩ | ⟨c22, H23⟩
     ·refine Z1 (Y4 c14 (zno .i64 h18) h20 c22) ?_
      obtain rfl := Zi H23;obtain rfl := Zi H2;exact ZE0
     ·refine Z1 (Y4 c14 (zno .i64 h18) h20 c22) ?_
      exact ⟨⟨(c, (IntKind.i64.wrap (t8 + 1))), H23⟩, ZR [], Nat.lt_succ_self _⟩
    ·refine Z1 c14 ?_
     obtain rfl := Zi H15;exact ⟨⟨(), rfl⟩, ZR []⟩
 ·rintro ⟨_, he24⟩
  obtain rfl := he24.symm;try dsimp only at H2
  refine ZT 1 ?_;refine Z0 ?_;obtain rfl := Zi H2;exact ZE0
def qD_ (n : Nat) (s : List ByteArray) (v : ByteArray) : Option Bool :=
 (xa_ n s v).bind fun t7 =>
 some (decide (0 ≤ t7))
theorem xF_ {n : Nat} {s : List ByteArray} {v : ByteArray} {r : Bool} (H : qD_ n s v = some r) : PureOK Tryz.prog 54 [D.sl (List.map eS s), D.v (.string v)] (D.v (.bool r)) true := by
 unfold qD_ at H;refine ZP qo_ fol (rs := #[.tmp 4]) Tryz.func54 ?_;refine ZT 1 ?_;obtain ⟨t7, b1, H2⟩ := zbi H;refine Z0 ?_;refine ZC0 (v0_ b1) ?_;refine Z0 ?_;obtain rfl := Zi H2;exact ZE0
def xw_ (n : Nat) (l : List GPair) (t7 : List (ByteArray × (List ByteArray))) : Nat → Int → Option ((Unit) ⊕ Bool)
 | 0, _ => none
 | c + 1, t10 =>
  (if (decide (t10 < (l.length : Int))) then
   (idx l t10).bind fun x2 =>
   (jW_ n x2.b t7).bind fun t172 =>
   (qD_ n t172 x2.a).bind fun t202 =>
   (if t202 then
    some (.inr true)
   else
    xw_ n l t7 c (IntKind.i64.wrap (t10 + 1)))
  else
   some (.inl ()))
def zk_ (n : Nat) (_ : List GPair) (t7 : List (ByteArray × (List ByteArray))) (st : Unit) (x2 : GPair) (k : Unit → Option ((Unit) ⊕ Bool)) : Option ((Unit) ⊕ Bool) :=
 match st with
 | _ =>
  (jW_ n x2.b t7).bind fun t172 =>
  (qD_ n t172 x2.a).bind fun t202 =>
  (if t202 then
   some (.inr true)
  else
   k ())
def vn_ (_ : Nat) (_ : List GPair) (_ : List (ByteArray × (List ByteArray))) (st : Unit) : Option ((Unit) ⊕ Bool) :=
 match st with
 | _ => some (.inl ())
theorem kO_ (n : Nat) (l : List GPair) (t7 : List (ByteArray × (List ByteArray))) (hx : l.length < 4611686018427387904) (c : Nat) (st : Unit) (ix : Nat) (hi : ix ≤ l.length) (hc : l.length - ix < c) : xw_ n l t7 c (match st, (ix : Int) with | _, ix => ix) = jg_ (zk_ n l t7) (vn_ n l t7) (l.drop ix) st :=
 q0_ (fun c st ix => xw_ n l t7 c (match st, ix with | _, ix => ix)) l (zk_ n l t7) (vn_ n l t7) (fun _ _ _ => rfl) hx c st ix hi hc
def wf_ (n : Nat) (l : List GPair) : Option Bool :=
 (zc_ n l).bind fun t7 =>
 (
  xw_ n l t7 n 0 : Option ((Unit) ⊕ Bool)).bind fun
  | .inl _ =>
   some false
  | .inr r => some r
theorem b3_ {n : Nat} {l : List GPair} {r : Bool} (H : wf_ n l = some r) : PureOK Tryz.prog 52 [D.sl (List.map eGPair l)] (D.v (.bool r)) true := by
 unfold wf_ at H;refine ZP qo_ fol (rs := #[.tmp 2]) Tryz.func52 ?_;refine zsq (ZT 1 ?_);refine Z0 ?_;refine zsq (ZT 1 ?_);obtain ⟨t7, b1, H2⟩ := zbi H;refine Z0 ?_;refine ZA0 (vN_ b1) ?_;refine Z0 ?_;refine zsq (zsq ?_);refine ZT 1 ?_;refine Z0 ?_;obtain ⟨e_, E3, H4⟩ := zbi H2;refine zjn (α := { y : Unit // e_ = .inl y }) (fun | ⟨_, _⟩ => ⟨noFr, noHp, 0⟩) ?_ ?_
 ·refine zbk ?_
  refine zlp (α := { q : Nat × Int // xw_ n l t7 q.1 q.2 = some e_ }) (fun | ⟨⟨c, t10⟩, _⟩ => ⟨upd 3 (.d (.mp (vz_ Value.string false (eL eS) t7)) false) (upd 8 (.d (.sl (List.map eGPair l)) true) (upd 9 (.v (.int .i64 (l.length : Int))) (upd 10 (.v (.int .i64 t10)) noFr))), noHp, 0⟩) (fun q => q.1.1) ⟨(n, 0), E3⟩ ?_ ?_
  ·exact ZR []
  ·rintro ⟨⟨c, t10⟩, L5⟩
   rcases c with _ | c
   ·exact Zx L5
   ·unfold xw_ at L5
    try dsimp only at L5
    refine ZT 1 ?_;refine Z0 ?_;rcases zit L5 with ⟨c20, H21⟩ | ⟨c20, H21⟩
    ·obtain ⟨x2, b22, H23⟩ := zbi H21
     obtain ⟨h24, h25⟩ := zix b22;try simp only [Int.reduceToNat, Int.toNat_natCast] at h25
     have h26 := qi_ eGPair h25;obtain ⟨t172, b28, H29⟩ := zbi H23;refine Z1 (Y3 c20 (zno .i64 h24) h26) ?_;refine ZD0 (zB_ b28) ?_;obtain ⟨t202, b30, H31⟩ := zbi H29;refine Z1 (Y3 c20 (zno .i64 h24) h26) ?_;refine ZD0 (xF_ b30) ?_;refine Z1 (Y3 c20 (zno .i64 h24) h26) ?_;refine qf_ (by rfl) ?_;refine Z1 (Y3 c20 (zno .i64 h24) h26) ?_;rcases zit H31 with ⟨c32, H33⟩ | ⟨c32, H33⟩
     ·refine Z1 (Y4 c20 (zno .i64 h24) h26 c32) ?_
      obtain rfl := Zi H33;obtain rfl := Zi H4;exact ZE0
     ·refine Z1 (Y4 c20 (zno .i64 h24) h26 c32) ?_
      exact ⟨⟨(c, (IntKind.i64.wrap (t10 + 1))), H33⟩, ZR [], Nat.lt_succ_self _⟩
    ·refine Z1 c20 ?_
     obtain rfl := Zi H21;exact ⟨⟨(), rfl⟩, ZR []⟩
 ·rintro ⟨_, he34⟩
  obtain rfl := he34.symm;try dsimp only at H4
  refine ZT 1 ?_;refine Z0 ?_;obtain rfl := Zi H4;exact ZE0
def xC_ (n : Nat) (s : ByteArray) (c2 : GPair) (c3 : List (ByteArray × (List ByteArray))) : Option Bool :=
 (if (s.toList == c2.b.toList) then
  some false
 else
  (jW_ n s c3).bind fun t12 =>
  (qD_ n t12 c2.b).bind fun t15 =>
  some t15)
theorem yk_ {n : Nat} {s : ByteArray} {c2 : GPair} {c3 : List (ByteArray × (List ByteArray))} {r : Bool} (H : xC_ n s c2 c3 = some r) : PureOK Tryz.prog 53 [D.v (.string s), D.pt (eGPair c2) 0, D.pt [D.mp (vz_ Value.string false (eL eS) c3)] 0] (D.v (.bool r)) true := by
 unfold xC_ at H;refine ZP qo_ fol (rs := #[.tmp 4]) Tryz.func53 ?_;refine ZT 1 ?_;refine Z0 ?_;rcases zit H with ⟨c1, H2⟩ | ⟨c1, H2⟩
 ·refine Z1 c1 ?_
  refine qf_ (by rfl) ?_;refine Z1 c1 ?_;obtain rfl := Zi H2;exact ZE0
 ·obtain ⟨t12, b3, H4⟩ := zbi H2
  refine Z1 c1 ?_;refine ZD0 (zB_ b3) ?_;obtain ⟨t15, b5, H6⟩ := zbi H4;refine Z1 c1 ?_;refine ZD0 (xF_ b5) ?_;refine Z1 c1 ?_;refine qf_ (by rfl) ?_;refine Z1 c1 ?_;obtain rfl := Zi H6;exact ZE0
def qk_ (n : Nat) (s : List ByteArray) (c2 : GPair) (c3 : List (ByteArray × (List ByteArray))) : Nat → Int → Option ((Unit) ⊕ Int)
 | 0, _ => none
 | c + 1, t8 =>
  (if (decide (t8 < (s.length : Int))) then
   (idx s t8).bind fun x2 =>
   (xC_ n x2 c2 c3).bind fun t162 =>
   (if t162 then
    some (.inr t8)
   else
    qk_ n s c2 c3 c (IntKind.i64.wrap (t8 + 1)))
  else
   some (.inl ()))
def qB_ (n : Nat) (s : List ByteArray) (c2 : GPair) (c3 : List (ByteArray × (List ByteArray))) : Option Int :=
 (
  qk_ n s c2 c3 n 0 : Option ((Unit) ⊕ Int)).bind fun
  | .inl _ =>
   some (-1)
  | .inr r => some r
theorem xm_ {n : Nat} {s : List ByteArray} {c2 : GPair} {c3 : List (ByteArray × (List ByteArray))} {r : Int} (H : qB_ n s c2 c3 = some r) : PureA Tryz.prog 82 [.d (D.sl (List.map eS s)), .fn 53 [D.pt (eGPair c2) 0, D.pt [D.mp (vz_ Value.string false (eL eS) c3)] 0]] (D.v (.int .i64 r)) true := by
 unfold qB_ at H;refine ZPA qo_ fol (rs := #[.tmp 4]) Tryz.func82 ?_;refine zsq (ZT 1 ?_);refine Z0 ?_;refine zsq (zsq ?_);refine ZT 1 ?_;refine Z0 ?_;obtain ⟨e_, E1, H2⟩ := zbi H;refine zjn (α := { y : Unit // e_ = .inl y }) (fun | ⟨_, _⟩ => ⟨noFr, noHp, 0⟩) ?_ ?_
 ·refine zbk ?_
  refine zlp (α := { q : Nat × Int // qk_ n s c2 c3 q.1 q.2 = some e_ }) (fun | ⟨⟨c, t8⟩, _⟩ => ⟨upd 0 (.d (.sl (List.map eS s)) true) (upd 1 (.fn 53 [.d (.pt [.v (.string c2.a), .v (.string c2.b)] 0) true, .d (.pt [.mp (vz_ Value.string false (eL eS) c3)] 0) true]) (upd 7 (.v (.int .i64 (s.length : Int))) (upd 8 (.v (.int .i64 t8)) noFr))), noHp, 0⟩) (fun q => q.1.1) ⟨(n, 0), E1⟩ ?_ ?_
  ·exact ZR []
  ·rintro ⟨⟨c, t8⟩, L3⟩
   rcases c with _ | c
   ·exact Zx L3
   ·unfold qk_ at L3
    try dsimp only at L3
    refine ZT 1 ?_;refine Z0 ?_;rcases zit L3 with ⟨c16, H17⟩ | ⟨c16, H17⟩
    ·obtain ⟨x2, b18, H19⟩ := zbi H17
     obtain ⟨h20, h21⟩ := zix b18;try simp only [Int.reduceToNat, Int.toNat_natCast] at h21
     have h22 := qi_ eS h21;obtain ⟨t162, b24, H25⟩ := zbi H19;refine Z1 (Y3 c16 (zno .i64 h20) h22) ?_;refine ZC0 (yk_ b24) ?_;refine Z1 (Y3 c16 (zno .i64 h20) h22) ?_;rcases zit H25 with ⟨c26, H27⟩ | ⟨c26, H27⟩
     ·refine Z1 (Y4 c16 (zno .i64 h20) h22 c26) ?_
      obtain rfl := Zi H27;obtain rfl := Zi H2;exact ZE0
     ·refine Z1 (Y4 c16 (zno .i64 h20) h22 c26) ?_
      exact ⟨⟨(c, (IntKind.i64.wrap (t8 + 1))), H27⟩, ZR [], Nat.lt_succ_self _⟩
    ·refine Z1 c16 ?_
     obtain rfl := Zi H17;exact ⟨⟨(), rfl⟩, ZR []⟩
 ·rintro ⟨_, he28⟩
  obtain rfl := he28.symm;try dsimp only at H2
  refine ZT 1 ?_;refine Z0 ?_;obtain rfl := Zi H2;exact ZE0
def ql_ (n : Nat) (s : List ByteArray) (c2 : GPair) (c3 : List (ByteArray × (List ByteArray))) : Option Bool :=
 (qB_ n s c2 c3).bind fun t7 =>
 some (decide (0 ≤ t7))
theorem jY_ {n : Nat} {s : List ByteArray} {c2 : GPair} {c3 : List (ByteArray × (List ByteArray))} {r : Bool} (H : ql_ n s c2 c3 = some r) : PureA Tryz.prog 55 [.d (D.sl (List.map eS s)), .fn 53 [D.pt (eGPair c2) 0, D.pt [D.mp (vz_ Value.string false (eL eS) c3)] 0]] (D.v (.bool r)) true := by
 unfold ql_ at H;refine ZPA qo_ fol (rs := #[.tmp 4]) Tryz.func55 ?_;refine ZT 1 ?_;obtain ⟨t7, b1, H2⟩ := zbi H;refine Z0 ?_;refine ZA0 (xm_ b1) ?_;refine Z0 ?_;obtain rfl := Zi H2;exact ZE0
def jH_ (n : Nat) (t9 : List GPair) (t14 : List (ByteArray × (List ByteArray))) : Nat → (List GPair × Int) → Option (List GPair)
 | 0, _ => none
 | c + 1, (out, t17) =>
  (if (decide (t17 < (t9.length : Int))) then
   (idx t9 t17).bind fun x2 =>
   (ql_ n (jh_ x2.a [] t14) x2 t14).bind fun t272 =>
   (if t272 then
    jH_ n t9 t14 c (out, (IntKind.i64.wrap (t17 + 1)))
   else
    (app out [x2]).bind fun l2 =>
    jH_ n t9 t14 c (l2, (IntKind.i64.wrap (t17 + 1))))
  else
   some out)
def x3_ (n : Nat) (_ : List GPair) (t14 : List (ByteArray × (List ByteArray))) (st : List GPair) (x2 : GPair) (k : List GPair → Option (List GPair)) : Option (List GPair) :=
 match st with
 | out =>
  (ql_ n (jh_ x2.a [] t14) x2 t14).bind fun t272 =>
  (if t272 then
   k out
  else
   (app out [x2]).bind fun l2 =>
   k l2)
def x4_ (_ : Nat) (_ : List GPair) (_ : List (ByteArray × (List ByteArray))) (st : List GPair) : Option (List GPair) :=
 match st with
 | out => some out
theorem kp_ (n : Nat) (t9 : List GPair) (t14 : List (ByteArray × (List ByteArray))) (hx : t9.length < 4611686018427387904) (c : Nat) (st : List GPair) (ix : Nat) (hi : ix ≤ t9.length) (hc : t9.length - ix < c) : jH_ n t9 t14 c (match st, (ix : Int) with | out, ix => (out, ix)) = jg_ (x3_ n t9 t14) (x4_ n t9 t14) (t9.drop ix) st :=
 q0_ (fun c st ix => jH_ n t9 t14 c (match st, ix with | out, ix => (out, ix))) t9 (x3_ n t9 t14) (x4_ n t9 t14) (fun _ _ _ => rfl) hx c st ix hi hc
def vE_ (n : Nat) (l : List GPair) : Option (List GPair) :=
 (zG_ n l).bind fun t9 =>
 (wf_ n t9).bind fun t11 =>
 (if t11 then
  some t9
 else
  (zc_ n t9).bind fun t14 =>
  (
   jH_ n t9 t14 n ([], 0) : Option (List GPair)).bind fun out3 =>
  some out3)
theorem g1_ {n : Nat} {l : List GPair} {r : List GPair} (H : vE_ n l = some r) : PureOK Tryz.prog 30 [D.sl (List.map eGPair l)] (D.sl (List.map eGPair r)) true := by
 unfold vE_ at H;refine ZP qo_ fol (rs := #[.tmp 2]) Tryz.func30 ?_;refine zsq (ZT 1 ?_);refine Z0 ?_;refine zsq (ZT 1 ?_);obtain ⟨t9, b1, H2⟩ := zbi H;refine Z0 ?_;refine ZC0 (kw_ b1) ?_;refine Z0 ?_;refine zsq (ZT 1 ?_);obtain ⟨t11, b3, H4⟩ := zbi H2;refine Z0 ?_;refine ZC0 (b3_ b3) ?_;refine Z0 ?_;rcases zit H4 with ⟨c5, H6⟩ | ⟨c5, H6⟩
 ·refine Z1 c5 ?_
  obtain rfl := Zi H6;exact ZE0
 ·refine Z1 c5 ?_
  refine zsq (ZT 1 ?_);obtain ⟨t14, b7, H8⟩ := zbi H6;refine Z1 c5 ?_;refine ZA0 (vN_ b7) ?_;refine Z1 c5 ?_;refine zsq (ZT 1 ?_);refine Z1 c5 ?_;refine zsq (zsq ?_);refine ZT 1 ?_;refine Z1 c5 ?_;obtain ⟨e_, E9, H10⟩ := zbi H8
  refine zjn (α := { y : List GPair // e_ = y } × Nat) (fun | ⟨⟨out3, _⟩, g3⟩ => ⟨upd 4 (accV 0 g3 (List.map eGPair out3)) noFr, upd 0 (accO 2 g3 false (List.map eGPair out3)) noHp, 1⟩) ?_ ?_
  ·refine zbk ?_
   refine zlp (α := { q : (Nat × (List GPair × Int)) × Nat // jH_ n t9 t14 q.1.1 q.1.2 = some e_ }) (fun | ⟨⟨⟨c, ⟨out, t17⟩⟩, g⟩, _⟩ => ⟨upd 3 (.pt 0 0) (upd 4 (accV 1 g (List.map eGPair out)) (upd 15 (.d (.sl (List.map eGPair t9)) false) (upd 16 (.v (.int .i64 (t9.length : Int))) (upd 17 (.v (.int .i64 t17)) noFr)))), upd 0 (some (.bx [.d (.mp (vz_ Value.string false (eL eS) t14)) false])) (upd 1 (accO 2 g false (List.map eGPair out)) noHp), 2⟩) (fun q => q.1.1.1) ⟨((n, ([], 0)), 0), E9⟩ ?_ ?_
   ·exact ZR [(0, 8)]
   ·rintro ⟨⟨⟨c, ⟨out, t17⟩⟩, g⟩, L11⟩
    rcases c with _ | c
    ·exact Zx L11
    ·unfold jH_ at L11
     try dsimp only at L11
     refine ZT 1 ?_;refine Z0 ?_;rcases zit L11 with ⟨c25, H26⟩ | ⟨c25, H26⟩
     ·obtain ⟨x2, b27, H28⟩ := zbi H26
      obtain ⟨h29, h30⟩ := zix b27;try simp only [Int.reduceToNat, Int.toNat_natCast] at h30
      have h31 := qi_ eGPair h30;have h33 : w8_ (false, [.string]) (.string x2.a) (.d (.sl []) false) false (wr_ false (vz_ Value.string false (eL eS) t14)) = some (.d (.sl (List.map eS (jh_ x2.a [] t14))) false, []) := lookD (b := false) (ag := false) (enc := (eL eS)) kJ_ x2.a ([] : List ByteArray) false t14;obtain ⟨t272, b34, H35⟩ := zbi H28;refine Z1 (Y4 c25 (zno .i64 h29) h31 h33) ?_
      refine ZA1 (Y4 c25 (zno .i64 h29) h31 h33) (jY_ b34) ?_;refine Z1 (Y4 c25 (zno .i64 h29) h31 h33) ?_;rcases zit H35 with ⟨c36, H37⟩ | ⟨c36, H37⟩
      ·refine Z1 (Y5 c25 (zno .i64 h29) h31 h33 c36) ?_
       exact ⟨⟨((c, (out, (IntKind.i64.wrap (t17 + 1)))), g), H37⟩, ZR [(0, 0), (1, 1)], Nat.lt_succ_self _⟩
      ·obtain ⟨l2, b38, H39⟩ := zbi H37
       obtain ⟨h40, h41⟩ := qj_ b38;have h40 : out.length + 1 ≤ 4294967296 := h40;have h42 : List.map eGPair out ++ [[.v (.string x2.a), .v (.string x2.b)]] = List.map eGPair l2 := qm_ eGPair h41;have h43 : out.length + 1 = l2.length := qn_ h41;have h44 : l2.length ≤ 4294967296 := by omega
       have q45 : 0 < l2.length := by omega
       refine Z1 (Y2 (Y6 c25 (zno .i64 h29) h31 h33 c36 h40) (Y3 h42 h43 h44)) ?_;rcases out with _ | ⟨q0, q1⟩
       ·try simp only [List.map_nil, accI, accN]
        exact ⟨⟨((c, (l2, (IntKind.i64.wrap (t17 + 1)))), 0), H39⟩, ZR [(0, 0), (1, 19)], Nat.lt_succ_self _⟩
       ·try simp only [List.map_cons, accI, accN]
        exact ⟨⟨((c, (l2, (IntKind.i64.wrap (t17 + 1)))), (g + 1)), H39⟩, ZR [(0, 0), (1, 1)], Nat.lt_succ_self _⟩
     ·refine Z1 c25 ?_
      obtain rfl := Zi H26;exact ⟨⟨⟨out, rfl⟩, g⟩, ZR [(0, 1)]⟩
  ·rintro ⟨⟨out3, he46⟩, g3⟩
   obtain rfl := he46.symm;try dsimp only at H10
   refine ZT 1 ?_;refine Z0 ?_;obtain rfl := Zi H10;exact ZE0
def xK_ (n : Nat) (p : GRoles) : Option GRoles :=
 (xG_ n p.users).bind fun t5 =>
 (xG_ n p.roles).bind fun t8 =>
 (vE_ n p.inherit).bind fun t11 =>
 (zG_ n p.assign).bind fun t14 =>
 (vS_ n p.grants).bind fun t17 =>
 (vD_ n p.ssd).bind fun t20 =>
 (vD_ n p.dsd).bind fun t23 =>
 (xT_ n p.sessions).bind fun t26 =>
 some (⟨t5, t8, t11, t14, t17, t20, t23, t26⟩ : GRoles)
theorem ww_ {n : Nat} {p : GRoles} {r : GRoles} (H : xK_ n p = some r) : PureOK Tryz.prog 18 [D.ag (eGRoles p)] (D.ag (eGRoles r)) true := by
 unfold xK_ at H;refine ZP qo_ fol (rs := #[.cell 2 29]) Tryz.func18 ?_;refine ZT 1 ?_;obtain ⟨t5, b1, H2⟩ := zbi H;refine Z0 ?_;refine ZD0 (vg_ b1) ?_;obtain ⟨t8, b3, H4⟩ := zbi H2;refine Z0 ?_;refine ZD0 (vg_ b3) ?_;obtain ⟨t11, b5, H6⟩ := zbi H4;refine Z0 ?_;refine ZD0 (g1_ b5) ?_;obtain ⟨t14, b7, H8⟩ := zbi H6;refine Z0 ?_;refine ZD0 (kw_ b7) ?_;obtain ⟨t17, b9, H10⟩ := zbi H8;refine Z0 ?_
 refine ZD0 (uK_ b9) ?_;obtain ⟨t20, b11, H12⟩ := zbi H10;refine Z0 ?_;refine ZD0 (k8_ b11) ?_;obtain ⟨t23, b13, H14⟩ := zbi H12;refine Z0 ?_;refine ZD0 (k8_ b13) ?_;obtain ⟨t26, b15, H16⟩ := zbi H14;refine Z0 ?_;refine ZD0 (yj_ b15) ?_;refine Z0 ?_;refine qf_ (by rfl) ?_;refine Z0 ?_;obtain rfl := Zi H16;exact ZE0
def ji_ (n : Nat) (s1 : List GPair) (s2 : List GPair) : Nat → Int → Option ((Unit) ⊕ Bool)
 | 0, _ => none
 | c + 1, t13 =>
  (if (decide (t13 < (s1.length : Int))) then
   (idx s1 t13).bind fun x3 =>
   (idx s2 t13).bind fun x4 =>
   (if ((x3.a == x4.a) && (x3.b == x4.b)) then
    ji_ n s1 s2 c (IntKind.i64.wrap (t13 + 1))
   else
    some (.inr false))
  else
   some (.inl ()))
def ju_ (n : Nat) (s1 : List GPair) (s2 : List GPair) : Option Bool :=
 (if ((s1.length : Int) != (s2.length : Int)) then
  some false
 else
  (
   ji_ n s1 s2 n 0 : Option ((Unit) ⊕ Bool)).bind fun
   | .inl _ =>
    some true
   | .inr r => some r)
theorem zw_ {n : Nat} {s1 : List GPair} {s2 : List GPair} {r : Bool} (H : ju_ n s1 s2 = some r) : PureOK Tryz.prog 41 [D.sl (List.map eGPair s1), D.sl (List.map eGPair s2)] (D.v (.bool r)) true := by
 unfold ju_ at H;refine ZP qo_ fol (rs := #[.tmp 4]) Tryz.func41 ?_;refine zsq (ZT 1 ?_);refine Z0 ?_;refine zsq (ZT 1 ?_);refine Z0 ?_;rcases zit H with ⟨c1, H2⟩ | ⟨c1, H2⟩
 ·refine Z1 c1 ?_
  obtain rfl := Zi H2;exact ZE0
 ·refine Z1 c1 ?_
  refine zsq (zsq ?_);refine ZT 1 ?_;refine Z1 c1 ?_;obtain ⟨e_, E3, H4⟩ := zbi H2;refine zjn (α := { y : Unit // e_ = .inl y }) (fun | ⟨_, _⟩ => ⟨noFr, noHp, 0⟩) ?_ ?_
  ·refine zbk ?_
   refine zlp (α := { q : Nat × Int // ji_ n s1 s2 q.1 q.2 = some e_ }) (fun | ⟨⟨c, t13⟩, _⟩ => ⟨upd 0 (.d (.sl (List.map eGPair s1)) true) (upd 1 (.d (.sl (List.map eGPair s2)) true) (upd 12 (.v (.int .i64 (s1.length : Int))) (upd 13 (.v (.int .i64 t13)) noFr))), noHp, 0⟩) (fun q => q.1.1) ⟨(n, 0), E3⟩ ?_ ?_
   ·exact ZR []
   ·rintro ⟨⟨c, t13⟩, L5⟩
    rcases c with _ | c
    ·exact Zx L5
    ·unfold ji_ at L5
     try dsimp only at L5
     refine ZT 1 ?_;refine Z0 ?_;rcases zit L5 with ⟨c22, H23⟩ | ⟨c22, H23⟩
     ·obtain ⟨x3, b24, H25⟩ := zbi H23
      obtain ⟨h26, h27⟩ := zix b24;try simp only [Int.reduceToNat, Int.toNat_natCast] at h27
      have h28 := qi_ eGPair h27;obtain ⟨x4, b30, H31⟩ := zbi H25;obtain ⟨h32, h33⟩ := zix b30;try simp only [Int.reduceToNat, Int.toNat_natCast] at h33
      have h34 := qi_ eGPair h33;refine Z1 (Y5 c22 (zno .i64 h26) h28 (zno .i64 h32) h34) ?_;refine qf_ (by rfl) ?_;refine Z1 (Y5 c22 (zno .i64 h26) h28 (zno .i64 h32) h34) ?_;rcases zit H31 with ⟨c36, H37⟩ | ⟨c36, H37⟩
      ·refine Z1 (Y6 c22 (zno .i64 h26) h28 (zno .i64 h32) h34 c36) ?_
       exact ⟨⟨(c, (IntKind.i64.wrap (t13 + 1))), H37⟩, ZR [], Nat.lt_succ_self _⟩
      ·refine Z1 (Y6 c22 (zno .i64 h26) h28 (zno .i64 h32) h34 c36) ?_
       obtain rfl := Zi H37;obtain rfl := Zi H4;exact ZE0
     ·refine Z1 c22 ?_
      obtain rfl := Zi H23;exact ⟨⟨(), rfl⟩, ZR []⟩
  ·rintro ⟨_, he38⟩
   obtain rfl := he38.symm;try dsimp only at H4
   refine ZT 1 ?_;refine Z0 ?_;obtain rfl := Zi H4;exact ZE0
def q1_ (n : Nat) (s1 : List GGrant) (s2 : List GGrant) : Nat → Int → Option ((Unit) ⊕ Bool)
 | 0, _ => none
 | c + 1, t13 =>
  (if (decide (t13 < (s1.length : Int))) then
   (idx s1 t13).bind fun x3 =>
   (idx s2 t13).bind fun x4 =>
   (if ((x3.role == x4.role) && ((x3.op == x4.op) && (x3.obj == x4.obj))) then
    q1_ n s1 s2 c (IntKind.i64.wrap (t13 + 1))
   else
    some (.inr false))
  else
   some (.inl ()))
def jI_ (n : Nat) (s1 : List GGrant) (s2 : List GGrant) : Option Bool :=
 (if ((s1.length : Int) != (s2.length : Int)) then
  some false
 else
  (
   q1_ n s1 s2 n 0 : Option ((Unit) ⊕ Bool)).bind fun
   | .inl _ =>
    some true
   | .inr r => some r)
theorem wg_ {n : Nat} {s1 : List GGrant} {s2 : List GGrant} {r : Bool} (H : jI_ n s1 s2 = some r) : PureOK Tryz.prog 42 [D.sl (List.map eGGrant s1), D.sl (List.map eGGrant s2)] (D.v (.bool r)) true := by
 unfold jI_ at H;refine ZP qo_ fol (rs := #[.tmp 4]) Tryz.func42 ?_;refine zsq (ZT 1 ?_);refine Z0 ?_;refine zsq (ZT 1 ?_);refine Z0 ?_;rcases zit H with ⟨c1, H2⟩ | ⟨c1, H2⟩
 ·refine Z1 c1 ?_
  obtain rfl := Zi H2;exact ZE0
 ·refine Z1 c1 ?_
  refine zsq (zsq ?_);refine ZT 1 ?_;refine Z1 c1 ?_;obtain ⟨e_, E3, H4⟩ := zbi H2;refine zjn (α := { y : Unit // e_ = .inl y }) (fun | ⟨_, _⟩ => ⟨noFr, noHp, 0⟩) ?_ ?_
  ·refine zbk ?_
   refine zlp (α := { q : Nat × Int // q1_ n s1 s2 q.1 q.2 = some e_ }) (fun | ⟨⟨c, t13⟩, _⟩ => ⟨upd 0 (.d (.sl (List.map eGGrant s1)) true) (upd 1 (.d (.sl (List.map eGGrant s2)) true) (upd 12 (.v (.int .i64 (s1.length : Int))) (upd 13 (.v (.int .i64 t13)) noFr))), noHp, 0⟩) (fun q => q.1.1) ⟨(n, 0), E3⟩ ?_ ?_
   ·exact ZR []
   ·rintro ⟨⟨c, t13⟩, L5⟩
    rcases c with _ | c
    ·exact Zx L5
    ·unfold q1_ at L5
     try dsimp only at L5
     refine ZT 1 ?_;refine Z0 ?_;rcases zit L5 with ⟨c22, H23⟩ | ⟨c22, H23⟩
     ·obtain ⟨x3, b24, H25⟩ := zbi H23
      obtain ⟨h26, h27⟩ := zix b24;try simp only [Int.reduceToNat, Int.toNat_natCast] at h27
      have h28 := qi_ eGGrant h27;obtain ⟨x4, b30, H31⟩ := zbi H25;obtain ⟨h32, h33⟩ := zix b30;try simp only [Int.reduceToNat, Int.toNat_natCast] at h33
      have h34 := qi_ eGGrant h33;refine Z1 (Y5 c22 (zno .i64 h26) h28 (zno .i64 h32) h34) ?_;refine qf_ (by rfl) ?_;refine Z1 (Y5 c22 (zno .i64 h26) h28 (zno .i64 h32) h34) ?_;rcases zit H31 with ⟨c36, H37⟩ | ⟨c36, H37⟩
      ·refine Z1 (Y6 c22 (zno .i64 h26) h28 (zno .i64 h32) h34 c36) ?_
       exact ⟨⟨(c, (IntKind.i64.wrap (t13 + 1))), H37⟩, ZR [], Nat.lt_succ_self _⟩
      ·refine Z1 (Y6 c22 (zno .i64 h26) h28 (zno .i64 h32) h34 c36) ?_
       obtain rfl := Zi H37;obtain rfl := Zi H4;exact ZE0
     ·refine Z1 c22 ?_
      obtain rfl := Zi H23;exact ⟨⟨(), rfl⟩, ZR []⟩
  ·rintro ⟨_, he38⟩
   obtain rfl := he38.symm;try dsimp only at H4
   refine ZT 1 ?_;refine Z0 ?_;obtain rfl := Zi H4;exact ZE0
def qe_ (n : Nat) (s1 : List GSod) (s2 : List GSod) : Nat → Int → Option ((Unit) ⊕ Bool)
 | 0, _ => none
 | c + 1, t17 =>
  (if (decide (t17 < (s1.length : Int))) then
   (idx s1 t17).bind fun x3 =>
   (idx s2 t17).bind fun x4 =>
   (xu_ n x3 x4).bind fun t292 =>
   (if t292 then
    qe_ n s1 s2 c (IntKind.i64.wrap (t17 + 1))
   else
    some (.inr false))
  else
   some (.inl ()))
def qd_ (n : Nat) (s1 : List GSod) (s2 : List GSod) : Option Bool :=
 (if ((s1.length : Int) != (s2.length : Int)) then
  some false
 else
  (
   qe_ n s1 s2 n 0 : Option ((Unit) ⊕ Bool)).bind fun
   | .inl _ =>
    some true
   | .inr r => some r)
theorem qw_ {n : Nat} {s1 : List GSod} {s2 : List GSod} {r : Bool} (H : qd_ n s1 s2 = some r) : PureA Tryz.prog 43 [.d (D.sl (List.map eGSod s1)), .d (D.sl (List.map eGSod s2)), .fn 44 []] (D.v (.bool r)) true := by
 unfold qd_ at H;refine ZPA qo_ fol (rs := #[.tmp 6]) Tryz.func43 ?_;refine zsq (ZT 1 ?_);refine Z0 ?_;refine zsq (ZT 1 ?_);refine Z0 ?_;rcases zit H with ⟨c1, H2⟩ | ⟨c1, H2⟩
 ·refine Z1 c1 ?_
  obtain rfl := Zi H2;exact ZE0
 ·refine Z1 c1 ?_
  refine zsq (zsq ?_);refine ZT 1 ?_;refine Z1 c1 ?_;obtain ⟨e_, E3, H4⟩ := zbi H2;refine zjn (α := { y : Unit // e_ = .inl y }) (fun | ⟨_, _⟩ => ⟨noFr, noHp, 0⟩) ?_ ?_
  ·refine zbk ?_
   refine zlp (α := { q : Nat × Int // qe_ n s1 s2 q.1 q.2 = some e_ }) (fun | ⟨⟨c, t17⟩, _⟩ => ⟨upd 1 (.d (.sl (List.map eGSod s2)) true) (upd 2 (.fn 44 []) (upd 15 (.d (.sl (List.map eGSod s1)) true) (upd 16 (.v (.int .i64 (s1.length : Int))) (upd 17 (.v (.int .i64 t17)) noFr)))), noHp, 0⟩) (fun q => q.1.1) ⟨(n, 0), E3⟩ ?_ ?_
   ·exact ZR []
   ·rintro ⟨⟨c, t17⟩, L5⟩
    rcases c with _ | c
    ·exact Zx L5
    ·unfold qe_ at L5
     try dsimp only at L5
     refine ZT 1 ?_;refine Z0 ?_;rcases zit L5 with ⟨c24, H25⟩ | ⟨c24, H25⟩
     ·obtain ⟨x3, b26, H27⟩ := zbi H25
      obtain ⟨h28, h29⟩ := zix b26;try simp only [Int.reduceToNat, Int.toNat_natCast] at h29
      have h30 := qi_ eGSod h29;obtain ⟨x4, b32, H33⟩ := zbi H27;obtain ⟨h34, h35⟩ := zix b32;try simp only [Int.reduceToNat, Int.toNat_natCast] at h35
      have h36 := qi_ eGSod h35;obtain ⟨t292, b38, H39⟩ := zbi H33;refine Z1 (Y5 c24 (zno .i64 h28) h30 (zno .i64 h34) h36) ?_;refine ZC0 (wd_ b38) ?_;refine Z1 (Y5 c24 (zno .i64 h28) h30 (zno .i64 h34) h36) ?_;rcases zit H39 with ⟨c40, H41⟩ | ⟨c40, H41⟩
      ·refine Z1 (Y6 c24 (zno .i64 h28) h30 (zno .i64 h34) h36 c40) ?_
       exact ⟨⟨(c, (IntKind.i64.wrap (t17 + 1))), H41⟩, ZR [], Nat.lt_succ_self _⟩
      ·refine Z1 (Y6 c24 (zno .i64 h28) h30 (zno .i64 h34) h36 c40) ?_
       obtain rfl := Zi H41;obtain rfl := Zi H4;exact ZE0
     ·refine Z1 c24 ?_
      obtain rfl := Zi H25;exact ⟨⟨(), rfl⟩, ZR []⟩
  ·rintro ⟨_, he42⟩
   obtain rfl := he42.symm;try dsimp only at H4
   refine ZT 1 ?_;refine Z0 ?_;obtain rfl := Zi H4;exact ZE0
def qb_ (n : Nat) (s1 : List GSession) (s2 : List GSession) : Nat → Int → Option ((Unit) ⊕ Bool)
 | 0, _ => none
 | c + 1, t17 =>
  (if (decide (t17 < (s1.length : Int))) then
   (idx s1 t17).bind fun x3 =>
   (idx s2 t17).bind fun x4 =>
   (je_ n x3 x4).bind fun t292 =>
   (if t292 then
    qb_ n s1 s2 c (IntKind.i64.wrap (t17 + 1))
   else
    some (.inr false))
  else
   some (.inl ()))
def qc_ (n : Nat) (s1 : List GSession) (s2 : List GSession) : Option Bool :=
 (if ((s1.length : Int) != (s2.length : Int)) then
  some false
 else
  (
   qb_ n s1 s2 n 0 : Option ((Unit) ⊕ Bool)).bind fun
   | .inl _ =>
    some true
   | .inr r => some r)
theorem qC_ {n : Nat} {s1 : List GSession} {s2 : List GSession} {r : Bool} (H : qc_ n s1 s2 = some r) : PureA Tryz.prog 45 [.d (D.sl (List.map eGSession s1)), .d (D.sl (List.map eGSession s2)), .fn 46 []] (D.v (.bool r)) true := by
 unfold qc_ at H;refine ZPA qo_ fol (rs := #[.tmp 6]) Tryz.func45 ?_;refine zsq (ZT 1 ?_);refine Z0 ?_;refine zsq (ZT 1 ?_);refine Z0 ?_;rcases zit H with ⟨c1, H2⟩ | ⟨c1, H2⟩
 ·refine Z1 c1 ?_
  obtain rfl := Zi H2;exact ZE0
 ·refine Z1 c1 ?_
  refine zsq (zsq ?_);refine ZT 1 ?_;refine Z1 c1 ?_;obtain ⟨e_, E3, H4⟩ := zbi H2;refine zjn (α := { y : Unit // e_ = .inl y }) (fun | ⟨_, _⟩ => ⟨noFr, noHp, 0⟩) ?_ ?_
  ·refine zbk ?_
   refine zlp (α := { q : Nat × Int // qb_ n s1 s2 q.1 q.2 = some e_ }) (fun | ⟨⟨c, t17⟩, _⟩ => ⟨upd 1 (.d (.sl (List.map eGSession s2)) true) (upd 2 (.fn 46 []) (upd 15 (.d (.sl (List.map eGSession s1)) true) (upd 16 (.v (.int .i64 (s1.length : Int))) (upd 17 (.v (.int .i64 t17)) noFr)))), noHp, 0⟩) (fun q => q.1.1) ⟨(n, 0), E3⟩ ?_ ?_
   ·exact ZR []
   ·rintro ⟨⟨c, t17⟩, L5⟩
    rcases c with _ | c
    ·exact Zx L5
    ·unfold qb_ at L5
     try dsimp only at L5
     refine ZT 1 ?_;refine Z0 ?_;rcases zit L5 with ⟨c24, H25⟩ | ⟨c24, H25⟩
     ·obtain ⟨x3, b26, H27⟩ := zbi H25
      obtain ⟨h28, h29⟩ := zix b26;try simp only [Int.reduceToNat, Int.toNat_natCast] at h29
      have h30 := qi_ eGSession h29;obtain ⟨x4, b32, H33⟩ := zbi H27;obtain ⟨h34, h35⟩ := zix b32;try simp only [Int.reduceToNat, Int.toNat_natCast] at h35
      have h36 := qi_ eGSession h35;obtain ⟨t292, b38, H39⟩ := zbi H33;refine Z1 (Y5 c24 (zno .i64 h28) h30 (zno .i64 h34) h36) ?_;refine ZC0 (zS_ b38) ?_;refine Z1 (Y5 c24 (zno .i64 h28) h30 (zno .i64 h34) h36) ?_;rcases zit H39 with ⟨c40, H41⟩ | ⟨c40, H41⟩
      ·refine Z1 (Y6 c24 (zno .i64 h28) h30 (zno .i64 h34) h36 c40) ?_
       exact ⟨⟨(c, (IntKind.i64.wrap (t17 + 1))), H41⟩, ZR [], Nat.lt_succ_self _⟩
      ·refine Z1 (Y6 c24 (zno .i64 h28) h30 (zno .i64 h34) h36 c40) ?_
       obtain rfl := Zi H41;obtain rfl := Zi H4;exact ZE0
     ·refine Z1 c24 ?_
      obtain rfl := Zi H25;exact ⟨⟨(), rfl⟩, ZR []⟩
  ·rintro ⟨_, he42⟩
   obtain rfl := he42.symm;try dsimp only at H4
   refine ZT 1 ?_;refine Z0 ?_;obtain rfl := Zi H4;exact ZE0
def z3_ (n : Nat) (a : GRoles) (b : GRoles) : Option Bool :=
 (qv_ n a.users b.users).bind fun t9 =>
 (if t9 then
  (qv_ n a.roles b.roles).bind fun t15 =>
  (if t15 then
   (ju_ n a.inherit b.inherit).bind fun t22 =>
   (if t22 then
    (ju_ n a.assign b.assign).bind fun t29 =>
    (if t29 then
     (jI_ n a.grants b.grants).bind fun t36 =>
     (if t36 then
      (qd_ n a.ssd b.ssd).bind fun t43 =>
      (if t43 then
       (qd_ n a.dsd b.dsd).bind fun t50 =>
       (if t50 then
        (qc_ n a.sessions b.sessions).bind fun t57 =>
        some t57
       else
        some false)
      else
       some false)
     else
      some false)
    else
     some false)
   else
    some false)
  else
   some false)
 else
  some false)
theorem wh_ {n : Nat} {a : GRoles} {b : GRoles} {r : Bool} (H : z3_ n a b = some r) : PureOK Tryz.prog 20 [D.ag (eGRoles a), D.ag (eGRoles b)] (D.v (.bool r)) true := by
 unfold z3_ at H;refine ZP qo_ fol (rs := #[.tmp 4]) Tryz.func20 ?_;refine ZT 1 ?_;obtain ⟨t9, b1, H2⟩ := zbi H;refine Z0 ?_;refine ZC0 (jy_ b1) ?_;refine Z0 ?_;rcases zit H2 with ⟨c3, H4⟩ | ⟨c3, H4⟩
 ·obtain ⟨t15, b5, H6⟩ := zbi H4
  refine Z1 c3 ?_;refine ZC0 (jy_ b5) ?_;refine Z1 c3 ?_;rcases zit H6 with ⟨c7, H8⟩ | ⟨c7, H8⟩
  ·obtain ⟨t22, b9, H10⟩ := zbi H8
   refine Z1 (Y2 c3 c7) ?_;refine ZC0 (zw_ b9) ?_;refine Z1 (Y2 c3 c7) ?_;rcases zit H10 with ⟨c11, H12⟩ | ⟨c11, H12⟩
   ·obtain ⟨t29, b13, H14⟩ := zbi H12
    refine Z1 (Y3 c3 c7 c11) ?_;refine ZC0 (zw_ b13) ?_;refine Z1 (Y3 c3 c7 c11) ?_;rcases zit H14 with ⟨c15, H16⟩ | ⟨c15, H16⟩
    ·obtain ⟨t36, b17, H18⟩ := zbi H16
     refine Z1 (Y4 c3 c7 c11 c15) ?_;refine ZC0 (wg_ b17) ?_;refine Z1 (Y4 c3 c7 c11 c15) ?_;rcases zit H18 with ⟨c19, H20⟩ | ⟨c19, H20⟩
     ·obtain ⟨t43, b21, H22⟩ := zbi H20
      refine Z1 (Y5 c3 c7 c11 c15 c19) ?_;refine ZA0 (qw_ b21) ?_;refine Z1 (Y5 c3 c7 c11 c15 c19) ?_;rcases zit H22 with ⟨c23, H24⟩ | ⟨c23, H24⟩
      ·obtain ⟨t50, b25, H26⟩ := zbi H24
       refine Z1 (Y6 c3 c7 c11 c15 c19 c23) ?_;refine ZA0 (qw_ b25) ?_;refine Z1 (Y6 c3 c7 c11 c15 c19 c23) ?_;rcases zit H26 with ⟨c27, H28⟩ | ⟨c27, H28⟩
       ·obtain ⟨t57, b29, H30⟩ := zbi H28
        refine Z1 (Y2 (Y6 c3 c7 c11 c15 c19 c23) c27) ?_;refine ZA0 (qC_ b29) ?_;refine Z1 (Y2 (Y6 c3 c7 c11 c15 c19 c23) c27) ?_;obtain rfl := Zi H30;exact ZE0
       ·refine Z1 (Y2 (Y6 c3 c7 c11 c15 c19 c23) c27) ?_
        obtain rfl := Zi H28;exact ZE0
      ·refine Z1 (Y6 c3 c7 c11 c15 c19 c23) ?_
       obtain rfl := Zi H24;exact ZE0
     ·refine Z1 (Y5 c3 c7 c11 c15 c19) ?_
      obtain rfl := Zi H20;exact ZE0
    ·refine Z1 (Y4 c3 c7 c11 c15) ?_
     obtain rfl := Zi H16;exact ZE0
   ·refine Z1 (Y3 c3 c7 c11) ?_
    obtain rfl := Zi H12;exact ZE0
  ·refine Z1 (Y2 c3 c7) ?_
   obtain rfl := Zi H8;exact ZE0
 ·refine Z1 c3 ?_
  obtain rfl := Zi H4;exact ZE0
def ze_ (n : Nat) : Option Bool :=
 (vO_ n [(⟨3, { data := #[97] }, { data := #[98] }, ByteArray.empty, 0, [], 0⟩ : GFact), (⟨3, { data := #[98] }, { data := #[99] }, ByteArray.empty, 0, [], 0⟩ : GFact), (⟨3, { data := #[97] }, { data := #[99] }, ByteArray.empty, 0, [], 0⟩ : GFact), (⟨1, { data := #[117] }, ByteArray.empty, ByteArray.empty, 0, [], 0⟩ : GFact), (⟨1, { data := #[117] }, ByteArray.empty, ByteArray.empty, 0, [], 0⟩ : GFact)]).bind fun t9 =>
 (xK_ n t9).bind fun t11 =>
 (if ((t9.inherit.length : Int) == 3) then
  (if ((t9.users.length : Int) == 2) then
   (if ((t11.inherit.length : Int) == 2) then
    (if ((t11.users.length : Int) == 1) then
     (zU_ n t9 ({ data := #[98] })).bind fun t36 =>
     (qJ_ n t36 ([{ data := #[98] }, { data := #[99] }] : List ByteArray)).bind fun t38 =>
     (if t38 then
      (wN_ n t9 ({ data := #[98] })).bind fun t42 =>
      (qJ_ n t42 ([{ data := #[97] }, { data := #[98] }] : List ByteArray)).bind fun t44 =>
      (if t44 then
       (zE_ n t11).bind fun t48 =>
       (if ((t48.length : Int) == 3) then
        (z3_ n t11 t11).bind fun t55 =>
        (if t55 then
         (z3_ n t11 t9).bind fun t60 =>
         some (!t60)
        else
         some false)
       else
        some false)
      else
       some false)
     else
      some false)
    else
     some false)
   else
    some false)
  else
   some false)
 else
  some false)
theorem wx_ {n : Nat} {r : Bool} (H : ze_ n  = some r) : PureOK Tryz.prog 10 [] (D.v (.bool r)) true := by
 unfold ze_ at H;refine ZP qo_ fol (rs := #[.tmp 0]) Tryz.func10 ?_;refine ZT 1 ?_;obtain ⟨t9, b1, H2⟩ := zbi H;refine Z0 ?_;refine ZC0 (gc_ b1) ?_;obtain ⟨t11, b3, H4⟩ := zbi H2;refine Z0 ?_;refine ZC0 (ww_ b3) ?_;refine Z0 ?_;rcases zit H4 with ⟨c5, H6⟩ | ⟨c5, H6⟩
 ·refine Z1 c5 ?_
  rcases zit H6 with ⟨c7, H8⟩ | ⟨c7, H8⟩
  ·refine Z1 (Y2 c5 c7) ?_
   rcases zit H8 with ⟨c9, H10⟩ | ⟨c9, H10⟩
   ·refine Z1 (Y3 c5 c7 c9) ?_
    rcases zit H10 with ⟨c11, H12⟩ | ⟨c11, H12⟩
    ·obtain ⟨t36, b13, H14⟩ := zbi H12
     refine Z1 (Y4 c5 c7 c9 c11) ?_;refine ZC0 (k9_ b13) ?_;obtain ⟨t38, b15, H16⟩ := zbi H14;refine Z1 (Y4 c5 c7 c9 c11) ?_;refine ZC1 (Y4 c5 c7 c9 c11) (jX_ b15) ?_;refine Z1 (Y4 c5 c7 c9 c11) ?_;rcases zit H16 with ⟨c17, H18⟩ | ⟨c17, H18⟩
     ·obtain ⟨t42, b19, H20⟩ := zbi H18
      refine Z1 (Y5 c5 c7 c9 c11 c17) ?_;refine ZC0 (ga_ b19) ?_;obtain ⟨t44, b21, H22⟩ := zbi H20;refine Z1 (Y5 c5 c7 c9 c11 c17) ?_;refine ZC1 (Y5 c5 c7 c9 c11 c17) (jX_ b21) ?_;refine Z1 (Y5 c5 c7 c9 c11 c17) ?_;rcases zit H22 with ⟨c23, H24⟩ | ⟨c23, H24⟩
      ·obtain ⟨t48, b25, H26⟩ := zbi H24
       refine Z1 (Y6 c5 c7 c9 c11 c17 c23) ?_;refine ZC0 (ko_ b25) ?_;refine Z1 (Y6 c5 c7 c9 c11 c17 c23) ?_;rcases zit H26 with ⟨c27, H28⟩ | ⟨c27, H28⟩
       ·obtain ⟨t55, b29, H30⟩ := zbi H28
        refine Z1 (Y2 (Y6 c5 c7 c9 c11 c17 c23) c27) ?_;refine ZC0 (wh_ b29) ?_;refine Z1 (Y2 (Y6 c5 c7 c9 c11 c17 c23) c27) ?_;rcases zit H30 with ⟨c31, H32⟩ | ⟨c31, H32⟩
        ·obtain ⟨t60, b33, H34⟩ := zbi H32
         refine Z1 (Y2 (Y6 c5 c7 c9 c11 c17 c23) (Y2 c27 c31)) ?_;refine ZC0 (wh_ b33) ?_;refine Z1 (Y2 (Y6 c5 c7 c9 c11 c17 c23) (Y2 c27 c31)) ?_;obtain rfl := Zi H34;exact ZE0
        ·refine Z1 (Y2 (Y6 c5 c7 c9 c11 c17 c23) (Y2 c27 c31)) ?_
         obtain rfl := Zi H32;exact ZE0
       ·refine Z1 (Y2 (Y6 c5 c7 c9 c11 c17 c23) c27) ?_
        obtain rfl := Zi H28;exact ZE0
      ·refine Z1 (Y6 c5 c7 c9 c11 c17 c23) ?_
       obtain rfl := Zi H24;exact ZE0
     ·refine Z1 (Y5 c5 c7 c9 c11 c17) ?_
      obtain rfl := Zi H18;exact ZE0
    ·refine Z1 (Y4 c5 c7 c9 c11) ?_
     obtain rfl := Zi H12;exact ZE0
   ·refine Z1 (Y3 c5 c7 c9) ?_
    obtain rfl := Zi H10;exact ZE0
  ·refine Z1 (Y2 c5 c7) ?_
   obtain rfl := Zi H8;exact ZE0
 ·refine Z1 c5 ?_
  obtain rfl := Zi H6;exact ZE0
end Go.Proofs.YtkkhgdmmbhpckaaGreat.Ab
