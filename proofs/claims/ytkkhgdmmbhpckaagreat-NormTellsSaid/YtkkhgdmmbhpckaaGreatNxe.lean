/-
 Functions, read off the code.
-/
import Derived.Test.YtkkhgdmmbhpckaaGreatNxd
namespace Go.Proofs.YtkkhgdmmbhpckaaGreat.Ab
open Go.RowKit
def q3_ (n : Nat) (t0 : GRoles) : Nat → (List GFact × Int) → Option (List GFact)
 | 0, _ => none
 | c + 1, (t3, t4) =>
  (if (decide (t4 < (t0.users.length : Int))) then
   (idx t0.users t4).bind fun x2 =>
   (app t3 [(⟨1, x2, ByteArray.empty, ByteArray.empty, 0, [], 0⟩ : GFact)]).bind fun l =>
   q3_ n t0 c (l, (IntKind.i64.wrap (t4 + 1)))
  else
   some t3)
def q4_ (n : Nat) (t0 : GRoles) : Nat → (List GFact × Int) → Option (List GFact)
 | 0, _ => none
 | c + 1, (t34, t5) =>
  (if (decide (t5 < (t0.roles.length : Int))) then
   (idx t0.roles t5).bind fun x4 =>
   (app t34 [(⟨2, x4, ByteArray.empty, ByteArray.empty, 0, [], 0⟩ : GFact)]).bind fun l3 =>
   q4_ n t0 c (l3, (IntKind.i64.wrap (t5 + 1)))
  else
   some t34)
def q5_ (n : Nat) (t0 : GRoles) : Nat → (List GFact × Int) → Option (List GFact)
 | 0, _ => none
 | c + 1, (t37, t6) =>
  (if (decide (t6 < (t0.inherit.length : Int))) then
   (idx t0.inherit t6).bind fun x6 =>
   (app t37 [(⟨3, x6.a, x6.b, ByteArray.empty, 0, [], 0⟩ : GFact)]).bind fun l5 =>
   q5_ n t0 c (l5, (IntKind.i64.wrap (t6 + 1)))
  else
   some t37)
def q6_ (n : Nat) (t0 : GRoles) : Nat → (List GFact × Int) → Option (List GFact)
 | 0, _ => none
 | c + 1, (t310, t7) =>
  (if (decide (t7 < (t0.assign.length : Int))) then
   (idx t0.assign t7).bind fun x8 =>
   (app t310 [(⟨4, x8.a, x8.b, ByteArray.empty, 0, [], 0⟩ : GFact)]).bind fun l7 =>
   q6_ n t0 c (l7, (IntKind.i64.wrap (t7 + 1)))
  else
   some t310)
def q7_ (n : Nat) (t0 : GRoles) : Nat → (List GFact × Int) → Option (List GFact)
 | 0, _ => none
 | c + 1, (t313, t8) =>
  (if (decide (t8 < (t0.grants.length : Int))) then
   (idx t0.grants t8).bind fun x10 =>
   (app t313 [(⟨5, x10.role, x10.op, x10.obj, 0, [], 0⟩ : GFact)]).bind fun l9 =>
   q7_ n t0 c (l9, (IntKind.i64.wrap (t8 + 1)))
  else
   some t313)
def q8_ (n : Nat) (t0 : GRoles) : Nat → (List GFact × Int) → Option (List GFact)
 | 0, _ => none
 | c + 1, (t316, t9) =>
  (if (decide (t9 < (t0.ssd.length : Int))) then
   (idx t0.ssd t9).bind fun x12 =>
   (app [] x12.roles).bind fun _ =>
   (app t316 [(⟨6, x12.name, ByteArray.empty, ByteArray.empty, x12.n_, x12.roles, 0⟩ : GFact)]).bind fun l13 =>
   q8_ n t0 c (l13, (IntKind.i64.wrap (t9 + 1)))
  else
   some t316)
def q9_ (n : Nat) (t0 : GRoles) : Nat → (List GFact × Int) → Option (List GFact)
 | 0, _ => none
 | c + 1, (t319, t10) =>
  (if (decide (t10 < (t0.dsd.length : Int))) then
   (idx t0.dsd t10).bind fun x14 =>
   (app [] x14.roles).bind fun _ =>
   (app t319 [(⟨7, x14.name, ByteArray.empty, ByteArray.empty, x14.n_, x14.roles, 0⟩ : GFact)]).bind fun l17 =>
   q9_ n t0 c (l17, (IntKind.i64.wrap (t10 + 1)))
  else
   some t319)
def ja_ (n : Nat) (t0 : GRoles) : Nat → (List GFact × Int) → Option (List GFact)
 | 0, _ => none
 | c + 1, (t322, t11) =>
  (if (decide (t11 < (t0.sessions.length : Int))) then
   (idx t0.sessions t11).bind fun x16 =>
   (app [] x16.roles).bind fun _ =>
   (app t322 [(⟨8, x16.name, x16.user, ByteArray.empty, 0, x16.roles, 0⟩ : GFact)]).bind fun l21 =>
   ja_ n t0 c (l21, (IntKind.i64.wrap (t11 + 1)))
  else
   some t322)
def ref13_Normal_C1_ref13_Facts (n : Nat) (t0 : GRoles) : Option (List GFact) :=
 (
  q3_ n t0 n ([], 0) : Option (List GFact)).bind fun t33 =>
 (
  q4_ n t0 n (t33, 0) : Option (List GFact)).bind fun t36 =>
 (
  q5_ n t0 n (t36, 0) : Option (List GFact)).bind fun t39 =>
 (
  q6_ n t0 n (t39, 0) : Option (List GFact)).bind fun t312 =>
 (
  q7_ n t0 n (t312, 0) : Option (List GFact)).bind fun t315 =>
 (
  q8_ n t0 n (t315, 0) : Option (List GFact)).bind fun t318 =>
 (
  q9_ n t0 n (t318, 0) : Option (List GFact)).bind fun t321 =>
 (
  ja_ n t0 n (t321, 0) : Option (List GFact)).bind fun t324 =>
 some t324
def jw_ (n : Nat) : Nat → (List GFact × Int) → Option (List GFact)
 | 0, _ => none
 | c + 1, (t325, t43) =>
  (if (decide (t43 < (t325.length : Int))) then
   (idx t325 t43).bind fun x18 =>
   (xQ_ n x18.l).bind fun t232 =>
   (some (List.set t325 (Int.toNat t43) (⟨x18.kind, x18.a, x18.b, x18.c, x18.n_, t232, x18.at_⟩ : GFact))).bind fun l23 =>
   jw_ n c (l23, (IntKind.i64.wrap (t43 + 1)))
  else
   some t325)
def jA_ (n : Nat) (t327 : List GFact) (out : List GFact) (i : Int) : Nat → Int → Option (Int)
 | 0, _ => none
 | c + 1, k2 =>
  (if (decide (0 < k2)) then
   (idx t327 i).bind fun x22 =>
   (idx out (IntKind.i64.wrap (k2 - 1))).bind fun x23 =>
   (jR_ n x22 x23).bind fun t272 =>
   (if t272 then
    jA_ n t327 out i c (IntKind.i64.wrap (k2 - 1))
   else
    some k2)
  else
   some k2)
def qI_ (n : Nat) (t327 : List GFact) : Nat → (List GFact × Int) → Option (List GFact)
 | 0, _ => none
 | c + 1, (out, i) =>
  (if (decide (i < (t327.length : Int))) then
   (
    jA_ n t327 out i n (out.length : Int) : Option (Int)).bind fun k4 =>
   (
    (if (decide (0 < k4)) then
     (idx out (IntKind.i64.wrap (k4 - 1))).bind fun x24 =>
     (idx t327 i).bind fun x25 =>
     (jR_ n x24 x25).bind fun t432 =>
     some (!t432)
    else
     some false) : Option (Bool)).bind fun t45 =>
   (if t45 then
    qI_ n t327 c (out, (IntKind.i64.wrap (i + 1)))
   else
    (if (decide (out.length = 0)) then
     (slc ([] : List GFact) 0 k4).bind fun _ =>
     (idx t327 i).bind fun x26 =>
     (slc ([] : List GFact) k4 0).bind fun _ =>
     qI_ n t327 c ([x26], (IntKind.i64.wrap (i + 1)))
    else
     (slc out 0 k4).bind fun l28 =>
     (app [] l28).bind fun _ =>
     (idx t327 i).bind fun x27 =>
     (app l28 [x27]).bind fun l30 =>
     (slc out k4 (out.length : Int)).bind fun l31 =>
     (if (decide (Int.toNat k4 < out.length)) then
      (app l30 l31).bind fun l32 =>
      qI_ n t327 c (l32, (IntKind.i64.wrap (i + 1)))
     else
      qI_ n t327 c (l30, (IntKind.i64.wrap (i + 1))))))
  else
   some out)
def ref13_Normal_C2_ref13_rising (n : Nat) (t327 : List GFact) : Option (List GFact) :=
 (
  qI_ n t327 n ([], 0) : Option (List GFact)).bind fun out3 =>
 some out3
def qX_ (n : Nat) (t28 : GRoles) : Nat → (List GPair × Int) → Option (List GPair)
 | 0, _ => none
 | c + 1, (t63, t73) =>
  (if (decide (t73 < (t28.inherit.length : Int))) then
   (idx t28.inherit t73).bind fun x29 =>
   (xb_ n t28.inherit x29.a false t73).bind fun t492 =>
   (vQ_ n t492 x29.b).bind fun t562 =>
   (if t562 then
    qX_ n t28 c (t63, (IntKind.i64.wrap (t73 + 1)))
   else
    (app t63 [x29]).bind fun l33 =>
    qX_ n t28 c (l33, (IntKind.i64.wrap (t73 + 1))))
  else
   some t63)
def jJ_ (n : Nat) (t0 : GRoles) : Option GRoles :=
 (ref13_Normal_C1_ref13_Facts n t0 : Option (List GFact)).bind fun t2 =>
 (
  jw_ n n (t2, 0) : Option (List GFact)).bind fun t327 =>
 (ref13_Normal_C2_ref13_rising n t327 : Option (List GFact)).bind fun t22 =>
 (ve_ n t22).bind fun t28 =>
 (zF_ n t28.inherit).bind fun t31 =>
 (if t31 then
  some t28
 else
  (
   qX_ n t28 n ([], 0) : Option (List GPair)).bind fun t65 =>
  some (⟨t28.users, t28.roles, t65, t28.assign, t28.grants, t28.ssd, t28.dsd, t28.sessions⟩ : GRoles))
set_option maxHeartbeats 8000000 in
theorem z5_ {n : Nat} {t0 : GRoles} {r : GRoles} (H : jJ_ n t0 = some r) : PureOK Tryz.prog 19 [D.ag (eGRoles t0)] (D.ag (eGRoles r)) true := by
 unfold jJ_ at H;refine ZP qo_ fol (rs := #[.cell 2 29]) Tryz.func19 ?_;refine zsq (ZT 1 ?_);refine Z0 ?_;refine zsq (ZT 1 ?_);refine Z0 ?_;obtain ⟨e_, E1, H2⟩ := zbi H
 refine qz_ (InlOK.mono (bV_ (α := { y : List GFact // e_ = y } × Nat) qo_ Tryz.func17 rfl (by kernel_rfl) (by kernel_rfl) (by simp [Tryz.f17]) (fun | ⟨⟨t2, _⟩, g32⟩ => ⟨upd 2 (accV 5 g32 (List.map eGFact t2)) noFr, upd 0 (some (.bx [.d (.sl (List.map eS t0.users)) true, .d (.sl (List.map eS t0.roles)) true, .d (.sl (List.map eGPair t0.inherit)) true, .d (.sl (List.map eGPair t0.assign)) true, .d (.sl (List.map eGGrant t0.grants)) true, .d (.sl (List.map eGSod t0.ssd)) true, .d (.sl (List.map eGSod t0.dsd)) true, .d (.sl (List.map eGSession t0.sessions)) true])) (upd 1 (some (.bx [.v (.slice none 0 0), .v (.slice none 0 0), .v (.slice none 0 0), .v (.slice none 0 0), .v (.slice none 0 0), .v (.slice none 0 0), .v (.slice none 0 0), .v (.slice none 0 0)])) (upd 5 (accO 7 g32 false (List.map eGFact t2)) noHp)), 6⟩) (fun | ⟨⟨t2, _⟩, g32⟩ => accV 5 g32 (List.map eGFact t2)) (by rintro ⟨⟨t2, he319⟩, g32⟩; first | ((simp -implicitDefEqProofs only [go_sem, ↓reduceIte, Tryz.f17]) <;> rfl) | rfl) ?_) ?_)
 ·unfold ref13_Normal_C1_ref13_Facts at E1
  try dsimp only at E1
  refine zsq (ZT 1 ?_);refine Z0 ?_;refine zsq (ZT 1 ?_);refine Z0 ?_;refine zsq (zsq ?_);refine ZT 1 ?_;refine Z0 ?_;obtain ⟨e_2, E3, H4⟩ := zbi E1
  refine zjn (α := { y : List GFact // e_2 = y } × Nat) (fun | ⟨⟨t33, _⟩, g3⟩ => ⟨upd 1 (.pt 5 0) (upd 3 (accV 6 g3 (List.map eGFact t33)) noFr), upd 0 (some (.bx [.d (.sl (List.map eS t0.users)) true, .d (.sl (List.map eS t0.roles)) true, .d (.sl (List.map eGPair t0.inherit)) true, .d (.sl (List.map eGPair t0.assign)) true, .d (.sl (List.map eGGrant t0.grants)) true, .d (.sl (List.map eGSod t0.ssd)) true, .d (.sl (List.map eGSod t0.dsd)) true, .d (.sl (List.map eGSession t0.sessions)) true])) (upd 1 (some (.bx [.v (.slice none 0 0), .v (.slice none 0 0), .v (.slice none 0 0), .v (.slice none 0 0), .v (.slice none 0 0), .v (.slice none 0 0), .v (.slice none 0 0), .v (.slice none 0 0)])) (upd 5 (some (.bx [.d (.sl (List.map eS t0.users)) true, .d (.sl (List.map eS t0.roles)) true, .d (.sl (List.map eGPair t0.inherit)) true, .d (.sl (List.map eGPair t0.assign)) true, .d (.sl (List.map eGGrant t0.grants)) true, .d (.sl (List.map eGSod t0.ssd)) true, .d (.sl (List.map eGSod t0.dsd)) true, .d (.sl (List.map eGSession t0.sessions)) true])) (upd 6 (accO 7 g3 false (List.map eGFact t33)) noHp))), 7⟩) ?_ ?_
  ·refine zbk ?_
   refine zlp (α := { q : (Nat × (List GFact × Int)) × Nat // q3_ n t0 q.1.1 q.1.2 = some e_2 }) (fun | ⟨⟨⟨c, ⟨t3, t4⟩⟩, g⟩, _⟩ => ⟨upd 1 (.pt 5 0) (upd 3 (accV 6 g (List.map eGFact t3)) (upd 4 (.v (.int .i64 t4)) noFr)), upd 0 (some (.bx [.d (.sl (List.map eS t0.users)) true, .d (.sl (List.map eS t0.roles)) true, .d (.sl (List.map eGPair t0.inherit)) true, .d (.sl (List.map eGPair t0.assign)) true, .d (.sl (List.map eGGrant t0.grants)) true, .d (.sl (List.map eGSod t0.ssd)) true, .d (.sl (List.map eGSod t0.dsd)) true, .d (.sl (List.map eGSession t0.sessions)) true])) (upd 1 (some (.bx [.v (.slice none 0 0), .v (.slice none 0 0), .v (.slice none 0 0), .v (.slice none 0 0), .v (.slice none 0 0), .v (.slice none 0 0), .v (.slice none 0 0), .v (.slice none 0 0)])) (upd 5 (some (.bx [.d (.sl (List.map eS t0.users)) true, .d (.sl (List.map eS t0.roles)) true, .d (.sl (List.map eGPair t0.inherit)) true, .d (.sl (List.map eGPair t0.assign)) true, .d (.sl (List.map eGGrant t0.grants)) true, .d (.sl (List.map eGSod t0.ssd)) true, .d (.sl (List.map eGSod t0.dsd)) true, .d (.sl (List.map eGSession t0.sessions)) true])) (upd 6 (accO 7 g false (List.map eGFact t3)) noHp))), 7⟩) (fun q => q.1.1.1) ⟨((n, ([], 0)), 0), E3⟩ ?_ ?_
   ·exact ZR [(5, 5)]
   ·rintro ⟨⟨⟨c, ⟨t3, t4⟩⟩, g⟩, L5⟩
    rcases c with _ | c
    ·exact Zx L5
    ·unfold q3_ at L5
     try dsimp only at L5
     refine ZT 1 ?_;refine Z0 ?_;rcases zit L5 with ⟨c14, H15⟩ | ⟨c14, H15⟩
     ·obtain ⟨x2, b16, H17⟩ := zbi H15
      obtain ⟨h18, h19⟩ := zix b16;try simp only [Int.reduceToNat, Int.toNat_natCast] at h19
      have h20 := qi_ eS h19;obtain ⟨l, b22, H23⟩ := zbi H17;obtain ⟨h24, h25⟩ := qj_ b22;have h24 : t3.length + 1 ≤ 4294967296 := h24;have h26 : List.map eGFact t3 ++ [[.v (.int .i64 1), .v (.string x2), .v (.string ByteArray.empty), .v (.string ByteArray.empty), .v (.int .i64 0), .sl [], .v (.int .i64 0)]] = List.map eGFact l := qm_ eGFact h25;have h27 : t3.length + 1 = l.length := qn_ h25
      have h28 : l.length ≤ 4294967296 := by omega
      have q29 : 0 < l.length := by omega
      refine Z1 (Y2 (Y6 c14 (zno .i64 h18) h20 h24 h26 h27) h28) ?_;rcases t3 with _ | ⟨q0, q1⟩
      ·try simp only [List.map_nil, accI, accN]
       exact ⟨⟨((c, (l, (IntKind.i64.wrap (t4 + 1)))), 0), H23⟩, ZR [(5, 5), (6, 20)], Nat.lt_succ_self _⟩
      ·try simp only [List.map_cons, accI, accN]
       exact ⟨⟨((c, (l, (IntKind.i64.wrap (t4 + 1)))), (g + 1)), H23⟩, ZR [(5, 5), (6, 6)], Nat.lt_succ_self _⟩
     ·refine Z1 c14 ?_
      obtain rfl := Zi H15;exact ⟨⟨⟨t3, rfl⟩, g⟩, ZR [(5, 5), (6, 6)]⟩
  ·rintro ⟨⟨t33, he318⟩, g3⟩
   obtain rfl := he318.symm;try dsimp only at H4
   refine zsq (zsq ?_);refine ZT 1 ?_;refine Z0 ?_;obtain ⟨e_3, E30, H31⟩ := zbi H4
   refine zjn (α := { y : List GFact // e_3 = y } × Nat) (fun | ⟨⟨t36, _⟩, g7⟩ => ⟨upd 1 (.pt 5 0) (upd 3 (accV 6 g7 (List.map eGFact t36)) noFr), upd 0 (some (.bx [.d (.sl (List.map eS t0.users)) true, .d (.sl (List.map eS t0.roles)) true, .d (.sl (List.map eGPair t0.inherit)) true, .d (.sl (List.map eGPair t0.assign)) true, .d (.sl (List.map eGGrant t0.grants)) true, .d (.sl (List.map eGSod t0.ssd)) true, .d (.sl (List.map eGSod t0.dsd)) true, .d (.sl (List.map eGSession t0.sessions)) true])) (upd 1 (some (.bx [.v (.slice none 0 0), .v (.slice none 0 0), .v (.slice none 0 0), .v (.slice none 0 0), .v (.slice none 0 0), .v (.slice none 0 0), .v (.slice none 0 0), .v (.slice none 0 0)])) (upd 5 (some (.bx [.d (.sl (List.map eS t0.users)) true, .d (.sl (List.map eS t0.roles)) true, .d (.sl (List.map eGPair t0.inherit)) true, .d (.sl (List.map eGPair t0.assign)) true, .d (.sl (List.map eGGrant t0.grants)) true, .d (.sl (List.map eGSod t0.ssd)) true, .d (.sl (List.map eGSod t0.dsd)) true, .d (.sl (List.map eGSession t0.sessions)) true])) (upd 6 (accO 7 g7 false (List.map eGFact t36)) noHp))), 7⟩) ?_ ?_
   ·refine zbk ?_
    refine zlp (α := { q : (Nat × (List GFact × Int)) × Nat // q4_ n t0 q.1.1 q.1.2 = some e_3 }) (fun | ⟨⟨⟨c, ⟨t34, t5⟩⟩, g5⟩, _⟩ => ⟨upd 1 (.pt 5 0) (upd 3 (accV 6 g5 (List.map eGFact t34)) (upd 5 (.v (.int .i64 t5)) noFr)), upd 0 (some (.bx [.d (.sl (List.map eS t0.users)) true, .d (.sl (List.map eS t0.roles)) true, .d (.sl (List.map eGPair t0.inherit)) true, .d (.sl (List.map eGPair t0.assign)) true, .d (.sl (List.map eGGrant t0.grants)) true, .d (.sl (List.map eGSod t0.ssd)) true, .d (.sl (List.map eGSod t0.dsd)) true, .d (.sl (List.map eGSession t0.sessions)) true])) (upd 1 (some (.bx [.v (.slice none 0 0), .v (.slice none 0 0), .v (.slice none 0 0), .v (.slice none 0 0), .v (.slice none 0 0), .v (.slice none 0 0), .v (.slice none 0 0), .v (.slice none 0 0)])) (upd 5 (some (.bx [.d (.sl (List.map eS t0.users)) true, .d (.sl (List.map eS t0.roles)) true, .d (.sl (List.map eGPair t0.inherit)) true, .d (.sl (List.map eGPair t0.assign)) true, .d (.sl (List.map eGGrant t0.grants)) true, .d (.sl (List.map eGSod t0.ssd)) true, .d (.sl (List.map eGSod t0.dsd)) true, .d (.sl (List.map eGSession t0.sessions)) true])) (upd 6 (accO 7 g5 false (List.map eGFact t34)) noHp))), 7⟩) (fun q => q.1.1.1) ⟨((n, (t33, 0)), g3), E30⟩ ?_ ?_
    ·exact ZR [(5, 5), (6, 6)]
    ·rintro ⟨⟨⟨c, ⟨t34, t5⟩⟩, g5⟩, L32⟩
     rcases c with _ | c
     ·exact Zx L32
     ·unfold q4_ at L32
      try dsimp only at L32
      refine ZT 1 ?_;refine Z0 ?_;rcases zit L32 with ⟨c49, H50⟩ | ⟨c49, H50⟩
      ·obtain ⟨x4, b51, H52⟩ := zbi H50
       obtain ⟨h53, h54⟩ := zix b51;try simp only [Int.reduceToNat, Int.toNat_natCast] at h54
       have h55 := qi_ eS h54;obtain ⟨l3, b57, H58⟩ := zbi H52;obtain ⟨h59, h60⟩ := qj_ b57;have h59 : t34.length + 1 ≤ 4294967296 := h59;have h61 : List.map eGFact t34 ++ [[.v (.int .i64 2), .v (.string x4), .v (.string ByteArray.empty), .v (.string ByteArray.empty), .v (.int .i64 0), .sl [], .v (.int .i64 0)]] = List.map eGFact l3 := qm_ eGFact h60
       have h62 : t34.length + 1 = l3.length := qn_ h60;have h63 : l3.length ≤ 4294967296 := by omega
       have q64 : 0 < l3.length := by omega
       refine Z1 (Y2 (Y6 c49 (zno .i64 h53) h55 h59 h61 h62) h63) ?_;rcases t34 with _ | ⟨q0, q1⟩
       ·try simp only [List.map_nil, accI, accN]
        exact ⟨⟨((c, (l3, (IntKind.i64.wrap (t5 + 1)))), 0), H58⟩, ZR [(5, 5), (6, 20)], Nat.lt_succ_self _⟩
       ·try simp only [List.map_cons, accI, accN]
        exact ⟨⟨((c, (l3, (IntKind.i64.wrap (t5 + 1)))), (g5 + 1)), H58⟩, ZR [(5, 5), (6, 6)], Nat.lt_succ_self _⟩
      ·refine Z1 c49 ?_
       obtain rfl := Zi H50;exact ⟨⟨⟨t34, rfl⟩, g5⟩, ZR [(5, 5), (6, 6)]⟩
   ·rintro ⟨⟨t36, he317⟩, g7⟩
    obtain rfl := he317.symm;try dsimp only at H31
    refine zsq (zsq ?_);refine ZT 1 ?_;refine Z0 ?_;obtain ⟨e_4, E65, H66⟩ := zbi H31
    refine zjn (α := { y : List GFact // e_4 = y } × Nat) (fun | ⟨⟨t39, _⟩, g11⟩ => ⟨upd 1 (.pt 5 0) (upd 3 (accV 6 g11 (List.map eGFact t39)) noFr), upd 0 (some (.bx [.d (.sl (List.map eS t0.users)) true, .d (.sl (List.map eS t0.roles)) true, .d (.sl (List.map eGPair t0.inherit)) true, .d (.sl (List.map eGPair t0.assign)) true, .d (.sl (List.map eGGrant t0.grants)) true, .d (.sl (List.map eGSod t0.ssd)) true, .d (.sl (List.map eGSod t0.dsd)) true, .d (.sl (List.map eGSession t0.sessions)) true])) (upd 1 (some (.bx [.v (.slice none 0 0), .v (.slice none 0 0), .v (.slice none 0 0), .v (.slice none 0 0), .v (.slice none 0 0), .v (.slice none 0 0), .v (.slice none 0 0), .v (.slice none 0 0)])) (upd 5 (some (.bx [.d (.sl (List.map eS t0.users)) true, .d (.sl (List.map eS t0.roles)) true, .d (.sl (List.map eGPair t0.inherit)) true, .d (.sl (List.map eGPair t0.assign)) true, .d (.sl (List.map eGGrant t0.grants)) true, .d (.sl (List.map eGSod t0.ssd)) true, .d (.sl (List.map eGSod t0.dsd)) true, .d (.sl (List.map eGSession t0.sessions)) true])) (upd 6 (accO 7 g11 false (List.map eGFact t39)) noHp))), 7⟩) ?_ ?_
    ·refine zbk ?_
     refine zlp (α := { q : (Nat × (List GFact × Int)) × Nat // q5_ n t0 q.1.1 q.1.2 = some e_4 }) (fun | ⟨⟨⟨c, ⟨t37, t6⟩⟩, g9⟩, _⟩ => ⟨upd 1 (.pt 5 0) (upd 3 (accV 6 g9 (List.map eGFact t37)) (upd 6 (.v (.int .i64 t6)) noFr)), upd 0 (some (.bx [.d (.sl (List.map eS t0.users)) true, .d (.sl (List.map eS t0.roles)) true, .d (.sl (List.map eGPair t0.inherit)) true, .d (.sl (List.map eGPair t0.assign)) true, .d (.sl (List.map eGGrant t0.grants)) true, .d (.sl (List.map eGSod t0.ssd)) true, .d (.sl (List.map eGSod t0.dsd)) true, .d (.sl (List.map eGSession t0.sessions)) true])) (upd 1 (some (.bx [.v (.slice none 0 0), .v (.slice none 0 0), .v (.slice none 0 0), .v (.slice none 0 0), .v (.slice none 0 0), .v (.slice none 0 0), .v (.slice none 0 0), .v (.slice none 0 0)])) (upd 5 (some (.bx [.d (.sl (List.map eS t0.users)) true, .d (.sl (List.map eS t0.roles)) true, .d (.sl (List.map eGPair t0.inherit)) true, .d (.sl (List.map eGPair t0.assign)) true, .d (.sl (List.map eGGrant t0.grants)) true, .d (.sl (List.map eGSod t0.ssd)) true, .d (.sl (List.map eGSod t0.dsd)) true, .d (.sl (List.map eGSession t0.sessions)) true])) (upd 6 (accO 7 g9 false (List.map eGFact t37)) noHp))), 7⟩) (fun q => q.1.1.1) ⟨((n, (t36, 0)), g7), E65⟩ ?_ ?_
     ·exact ZR [(5, 5), (6, 6)]
     ·rintro ⟨⟨⟨c, ⟨t37, t6⟩⟩, g9⟩, L67⟩
      rcases c with _ | c
      ·exact Zx L67
      ·unfold q5_ at L67
       try dsimp only at L67
       refine ZT 1 ?_;refine Z0 ?_;rcases zit L67 with ⟨c84, H85⟩ | ⟨c84, H85⟩
       ·obtain ⟨x6, b86, H87⟩ := zbi H85
        obtain ⟨h88, h89⟩ := zix b86;try simp only [Int.reduceToNat, Int.toNat_natCast] at h89
        have h90 := qi_ eGPair h89;obtain ⟨l5, b92, H93⟩ := zbi H87;obtain ⟨h94, h95⟩ := qj_ b92;have h94 : t37.length + 1 ≤ 4294967296 := h94;have h96 : List.map eGFact t37 ++ [[.v (.int .i64 3), .v (.string x6.a), .v (.string x6.b), .v (.string ByteArray.empty), .v (.int .i64 0), .sl [], .v (.int .i64 0)]] = List.map eGFact l5 := qm_ eGFact h95
        have h97 : t37.length + 1 = l5.length := qn_ h95;have h98 : l5.length ≤ 4294967296 := by omega
        have q99 : 0 < l5.length := by omega
        refine Z1 (Y2 (Y6 c84 (zno .i64 h88) h90 h94 h96 h97) h98) ?_;refine qf_ (by (cases t37 <;> rfl)) ?_;refine Z1 (Y2 (Y6 c84 (zno .i64 h88) h90 h94 h96 h97) h98) ?_;rcases t37 with _ | ⟨q0, q1⟩
        ·try simp only [List.map_nil, accI, accN]
         exact ⟨⟨((c, (l5, (IntKind.i64.wrap (t6 + 1)))), 0), H93⟩, ZR [(5, 5), (6, 27)], Nat.lt_succ_self _⟩
        ·try simp only [List.map_cons, accI, accN]
         exact ⟨⟨((c, (l5, (IntKind.i64.wrap (t6 + 1)))), (g9 + 1)), H93⟩, ZR [(5, 5), (6, 6)], Nat.lt_succ_self _⟩
       ·refine Z1 c84 ?_
        obtain rfl := Zi H85;exact ⟨⟨⟨t37, rfl⟩, g9⟩, ZR [(5, 5), (6, 6)]⟩
    ·rintro ⟨⟨t39, he316⟩, g11⟩
     obtain rfl := he316.symm;try dsimp only at H66
     refine zsq (zsq ?_);refine ZT 1 ?_;refine Z0 ?_;obtain ⟨e_5, E100, H101⟩ := zbi H66
     refine zjn (α := { y : List GFact // e_5 = y } × Nat) (fun | ⟨⟨t312, _⟩, g15⟩ => ⟨upd 1 (.pt 5 0) (upd 3 (accV 6 g15 (List.map eGFact t312)) noFr), upd 0 (some (.bx [.d (.sl (List.map eS t0.users)) true, .d (.sl (List.map eS t0.roles)) true, .d (.sl (List.map eGPair t0.inherit)) true, .d (.sl (List.map eGPair t0.assign)) true, .d (.sl (List.map eGGrant t0.grants)) true, .d (.sl (List.map eGSod t0.ssd)) true, .d (.sl (List.map eGSod t0.dsd)) true, .d (.sl (List.map eGSession t0.sessions)) true])) (upd 1 (some (.bx [.v (.slice none 0 0), .v (.slice none 0 0), .v (.slice none 0 0), .v (.slice none 0 0), .v (.slice none 0 0), .v (.slice none 0 0), .v (.slice none 0 0), .v (.slice none 0 0)])) (upd 5 (some (.bx [.d (.sl (List.map eS t0.users)) true, .d (.sl (List.map eS t0.roles)) true, .d (.sl (List.map eGPair t0.inherit)) true, .d (.sl (List.map eGPair t0.assign)) true, .d (.sl (List.map eGGrant t0.grants)) true, .d (.sl (List.map eGSod t0.ssd)) true, .d (.sl (List.map eGSod t0.dsd)) true, .d (.sl (List.map eGSession t0.sessions)) true])) (upd 6 (accO 7 g15 false (List.map eGFact t312)) noHp))), 7⟩) ?_ ?_
     ·refine zbk ?_
      refine zlp (α := { q : (Nat × (List GFact × Int)) × Nat // q6_ n t0 q.1.1 q.1.2 = some e_5 }) (fun | ⟨⟨⟨c, ⟨t310, t7⟩⟩, g13⟩, _⟩ => ⟨upd 1 (.pt 5 0) (upd 3 (accV 6 g13 (List.map eGFact t310)) (upd 7 (.v (.int .i64 t7)) noFr)), upd 0 (some (.bx [.d (.sl (List.map eS t0.users)) true, .d (.sl (List.map eS t0.roles)) true, .d (.sl (List.map eGPair t0.inherit)) true, .d (.sl (List.map eGPair t0.assign)) true, .d (.sl (List.map eGGrant t0.grants)) true, .d (.sl (List.map eGSod t0.ssd)) true, .d (.sl (List.map eGSod t0.dsd)) true, .d (.sl (List.map eGSession t0.sessions)) true])) (upd 1 (some (.bx [.v (.slice none 0 0), .v (.slice none 0 0), .v (.slice none 0 0), .v (.slice none 0 0), .v (.slice none 0 0), .v (.slice none 0 0), .v (.slice none 0 0), .v (.slice none 0 0)])) (upd 5 (some (.bx [.d (.sl (List.map eS t0.users)) true, .d (.sl (List.map eS t0.roles)) true, .d (.sl (List.map eGPair t0.inherit)) true, .d (.sl (List.map eGPair t0.assign)) true, .d (.sl (List.map eGGrant t0.grants)) true, .d (.sl (List.map eGSod t0.ssd)) true, .d (.sl (List.map eGSod t0.dsd)) true, .d (.sl (List.map eGSession t0.sessions)) true])) (upd 6 (accO 7 g13 false (List.map eGFact t310)) noHp))), 7⟩) (fun q => q.1.1.1) ⟨((n, (t39, 0)), g11), E100⟩ ?_ ?_
      ·exact ZR [(5, 5), (6, 6)]
      ·rintro ⟨⟨⟨c, ⟨t310, t7⟩⟩, g13⟩, L102⟩
       rcases c with _ | c
       ·exact Zx L102
       ·unfold q6_ at L102
        try dsimp only at L102
        refine ZT 1 ?_;refine Z0 ?_;rcases zit L102 with ⟨c119, H120⟩ | ⟨c119, H120⟩
        ·obtain ⟨x8, b121, H122⟩ := zbi H120
         obtain ⟨h123, h124⟩ := zix b121;try simp only [Int.reduceToNat, Int.toNat_natCast] at h124
         have h125 := qi_ eGPair h124;obtain ⟨l7, b127, H128⟩ := zbi H122;obtain ⟨h129, h130⟩ := qj_ b127;have h129 : t310.length + 1 ≤ 4294967296 := h129;have h131 : List.map eGFact t310 ++ [[.v (.int .i64 4), .v (.string x8.a), .v (.string x8.b), .v (.string ByteArray.empty), .v (.int .i64 0), .sl [], .v (.int .i64 0)]] = List.map eGFact l7 := qm_ eGFact h130
         have h132 : t310.length + 1 = l7.length := qn_ h130;have h133 : l7.length ≤ 4294967296 := by omega
         have q134 : 0 < l7.length := by omega
         refine Z1 (Y2 (Y6 c119 (zno .i64 h123) h125 h129 h131 h132) h133) ?_;refine qf_ (by (cases t310 <;> rfl)) ?_;refine Z1 (Y2 (Y6 c119 (zno .i64 h123) h125 h129 h131 h132) h133) ?_;rcases t310 with _ | ⟨q0, q1⟩
         ·try simp only [List.map_nil, accI, accN]
          exact ⟨⟨((c, (l7, (IntKind.i64.wrap (t7 + 1)))), 0), H128⟩, ZR [(5, 5), (6, 27)], Nat.lt_succ_self _⟩
         ·try simp only [List.map_cons, accI, accN]
          exact ⟨⟨((c, (l7, (IntKind.i64.wrap (t7 + 1)))), (g13 + 1)), H128⟩, ZR [(5, 5), (6, 6)], Nat.lt_succ_self _⟩
        ·refine Z1 c119 ?_
         obtain rfl := Zi H120;exact ⟨⟨⟨t310, rfl⟩, g13⟩, ZR [(5, 5), (6, 6)]⟩
     ·rintro ⟨⟨t312, he315⟩, g15⟩
      obtain rfl := he315.symm;try dsimp only at H101
      refine zsq (zsq ?_);refine ZT 1 ?_;refine Z0 ?_;obtain ⟨e_6, E135, H136⟩ := zbi H101
      refine zjn (α := { y : List GFact // e_6 = y } × Nat) (fun | ⟨⟨t315, _⟩, g19⟩ => ⟨upd 1 (.pt 5 0) (upd 3 (accV 6 g19 (List.map eGFact t315)) noFr), upd 0 (some (.bx [.d (.sl (List.map eS t0.users)) true, .d (.sl (List.map eS t0.roles)) true, .d (.sl (List.map eGPair t0.inherit)) true, .d (.sl (List.map eGPair t0.assign)) true, .d (.sl (List.map eGGrant t0.grants)) true, .d (.sl (List.map eGSod t0.ssd)) true, .d (.sl (List.map eGSod t0.dsd)) true, .d (.sl (List.map eGSession t0.sessions)) true])) (upd 1 (some (.bx [.v (.slice none 0 0), .v (.slice none 0 0), .v (.slice none 0 0), .v (.slice none 0 0), .v (.slice none 0 0), .v (.slice none 0 0), .v (.slice none 0 0), .v (.slice none 0 0)])) (upd 5 (some (.bx [.d (.sl (List.map eS t0.users)) true, .d (.sl (List.map eS t0.roles)) true, .d (.sl (List.map eGPair t0.inherit)) true, .d (.sl (List.map eGPair t0.assign)) true, .d (.sl (List.map eGGrant t0.grants)) true, .d (.sl (List.map eGSod t0.ssd)) true, .d (.sl (List.map eGSod t0.dsd)) true, .d (.sl (List.map eGSession t0.sessions)) true])) (upd 6 (accO 7 g19 false (List.map eGFact t315)) noHp))), 7⟩) ?_ ?_
      ·refine zbk ?_
       refine zlp (α := { q : (Nat × (List GFact × Int)) × Nat // q7_ n t0 q.1.1 q.1.2 = some e_6 }) (fun | ⟨⟨⟨c, ⟨t313, t8⟩⟩, g17⟩, _⟩ => ⟨upd 1 (.pt 5 0) (upd 3 (accV 6 g17 (List.map eGFact t313)) (upd 8 (.v (.int .i64 t8)) noFr)), upd 0 (some (.bx [.d (.sl (List.map eS t0.users)) true, .d (.sl (List.map eS t0.roles)) true, .d (.sl (List.map eGPair t0.inherit)) true, .d (.sl (List.map eGPair t0.assign)) true, .d (.sl (List.map eGGrant t0.grants)) true, .d (.sl (List.map eGSod t0.ssd)) true, .d (.sl (List.map eGSod t0.dsd)) true, .d (.sl (List.map eGSession t0.sessions)) true])) (upd 1 (some (.bx [.v (.slice none 0 0), .v (.slice none 0 0), .v (.slice none 0 0), .v (.slice none 0 0), .v (.slice none 0 0), .v (.slice none 0 0), .v (.slice none 0 0), .v (.slice none 0 0)])) (upd 5 (some (.bx [.d (.sl (List.map eS t0.users)) true, .d (.sl (List.map eS t0.roles)) true, .d (.sl (List.map eGPair t0.inherit)) true, .d (.sl (List.map eGPair t0.assign)) true, .d (.sl (List.map eGGrant t0.grants)) true, .d (.sl (List.map eGSod t0.ssd)) true, .d (.sl (List.map eGSod t0.dsd)) true, .d (.sl (List.map eGSession t0.sessions)) true])) (upd 6 (accO 7 g17 false (List.map eGFact t313)) noHp))), 7⟩) (fun q => q.1.1.1) ⟨((n, (t312, 0)), g15), E135⟩ ?_ ?_
       ·exact ZR [(5, 5), (6, 6)]
       ·rintro ⟨⟨⟨c, ⟨t313, t8⟩⟩, g17⟩, L137⟩
        rcases c with _ | c
        ·exact Zx L137
        ·unfold q7_ at L137
         try dsimp only at L137
         refine ZT 1 ?_;refine Z0 ?_;rcases zit L137 with ⟨c154, H155⟩ | ⟨c154, H155⟩
         ·obtain ⟨x10, b156, H157⟩ := zbi H155
          obtain ⟨h158, h159⟩ := zix b156;try simp only [Int.reduceToNat, Int.toNat_natCast] at h159
          have h160 := qi_ eGGrant h159;obtain ⟨l9, b162, H163⟩ := zbi H157;obtain ⟨h164, h165⟩ := qj_ b162;have h164 : t313.length + 1 ≤ 4294967296 := h164;have h166 : List.map eGFact t313 ++ [[.v (.int .i64 5), .v (.string x10.role), .v (.string x10.op), .v (.string x10.obj), .v (.int .i64 0), .sl [], .v (.int .i64 0)]] = List.map eGFact l9 := qm_ eGFact h165
          have h167 : t313.length + 1 = l9.length := qn_ h165;have h168 : l9.length ≤ 4294967296 := by omega
          have q169 : 0 < l9.length := by omega
          refine Z1 (Y2 (Y6 c154 (zno .i64 h158) h160 h164 h166 h167) h168) ?_;refine qf_ (by (cases t313 <;> rfl)) ?_;refine Z1 (Y2 (Y6 c154 (zno .i64 h158) h160 h164 h166 h167) h168) ?_;rcases t313 with _ | ⟨q0, q1⟩
          ·try simp only [List.map_nil, accI, accN]
           exact ⟨⟨((c, (l9, (IntKind.i64.wrap (t8 + 1)))), 0), H163⟩, ZR [(5, 5), (6, 33)], Nat.lt_succ_self _⟩
          ·try simp only [List.map_cons, accI, accN]
           exact ⟨⟨((c, (l9, (IntKind.i64.wrap (t8 + 1)))), (g17 + 1)), H163⟩, ZR [(5, 5), (6, 6)], Nat.lt_succ_self _⟩
         ·refine Z1 c154 ?_
          obtain rfl := Zi H155;exact ⟨⟨⟨t313, rfl⟩, g17⟩, ZR [(5, 5), (6, 6)]⟩
      ·rintro ⟨⟨t315, he314⟩, g19⟩
       obtain rfl := he314.symm;try dsimp only at H136
       refine zsq (zsq ?_);refine ZT 1 ?_;refine Z0 ?_;obtain ⟨e_7, E170, H171⟩ := zbi H136
       refine zjn (α := { y : List GFact // e_7 = y } × Nat) (fun | ⟨⟨t318, _⟩, g23⟩ => ⟨upd 1 (.pt 5 0) (upd 3 (accV 6 g23 (List.map eGFact t318)) noFr), upd 0 (some (.bx [.d (.sl (List.map eS t0.users)) true, .d (.sl (List.map eS t0.roles)) true, .d (.sl (List.map eGPair t0.inherit)) true, .d (.sl (List.map eGPair t0.assign)) true, .d (.sl (List.map eGGrant t0.grants)) true, .d (.sl (List.map eGSod t0.ssd)) true, .d (.sl (List.map eGSod t0.dsd)) true, .d (.sl (List.map eGSession t0.sessions)) true])) (upd 1 (some (.bx [.v (.slice none 0 0), .v (.slice none 0 0), .v (.slice none 0 0), .v (.slice none 0 0), .v (.slice none 0 0), .v (.slice none 0 0), .v (.slice none 0 0), .v (.slice none 0 0)])) (upd 5 (some (.bx [.d (.sl (List.map eS t0.users)) true, .d (.sl (List.map eS t0.roles)) true, .d (.sl (List.map eGPair t0.inherit)) true, .d (.sl (List.map eGPair t0.assign)) true, .d (.sl (List.map eGGrant t0.grants)) true, .d (.sl (List.map eGSod t0.ssd)) true, .d (.sl (List.map eGSod t0.dsd)) true, .d (.sl (List.map eGSession t0.sessions)) true])) (upd 6 (accO 7 g23 false (List.map eGFact t318)) noHp))), 7⟩) ?_ ?_
       ·refine zbk ?_
        refine zlp (α := { q : (Nat × (List GFact × Int)) × Nat // q8_ n t0 q.1.1 q.1.2 = some e_7 }) (fun | ⟨⟨⟨c, ⟨t316, t9⟩⟩, g21⟩, _⟩ => ⟨upd 1 (.pt 5 0) (upd 3 (accV 6 g21 (List.map eGFact t316)) (upd 9 (.v (.int .i64 t9)) noFr)), upd 0 (some (.bx [.d (.sl (List.map eS t0.users)) true, .d (.sl (List.map eS t0.roles)) true, .d (.sl (List.map eGPair t0.inherit)) true, .d (.sl (List.map eGPair t0.assign)) true, .d (.sl (List.map eGGrant t0.grants)) true, .d (.sl (List.map eGSod t0.ssd)) true, .d (.sl (List.map eGSod t0.dsd)) true, .d (.sl (List.map eGSession t0.sessions)) true])) (upd 1 (some (.bx [.v (.slice none 0 0), .v (.slice none 0 0), .v (.slice none 0 0), .v (.slice none 0 0), .v (.slice none 0 0), .v (.slice none 0 0), .v (.slice none 0 0), .v (.slice none 0 0)])) (upd 5 (some (.bx [.d (.sl (List.map eS t0.users)) true, .d (.sl (List.map eS t0.roles)) true, .d (.sl (List.map eGPair t0.inherit)) true, .d (.sl (List.map eGPair t0.assign)) true, .d (.sl (List.map eGGrant t0.grants)) true, .d (.sl (List.map eGSod t0.ssd)) true, .d (.sl (List.map eGSod t0.dsd)) true, .d (.sl (List.map eGSession t0.sessions)) true])) (upd 6 (accO 7 g21 false (List.map eGFact t316)) noHp))), 7⟩) (fun q => q.1.1.1) ⟨((n, (t315, 0)), g19), E170⟩ ?_ ?_
        ·exact ZR [(5, 5), (6, 6)]
        ·rintro ⟨⟨⟨c, ⟨t316, t9⟩⟩, g21⟩, L172⟩
         rcases c with _ | c
         ·exact Zx L172
         ·unfold q8_ at L172
          try dsimp only at L172
          refine ZT 1 ?_;refine Z0 ?_;rcases zit L172 with ⟨c195, H196⟩ | ⟨c195, H196⟩
          ·obtain ⟨x12, b197, H198⟩ := zbi H196
           obtain ⟨h199, h200⟩ := zix b197;try simp only [Int.reduceToNat, Int.toNat_natCast] at h200
           have h201 := qi_ eGSod h200;obtain ⟨l12, b203, H204⟩ := zbi H198;obtain ⟨h205, h206⟩ := qj_ b203;have h206 : x12.roles = l12 := h206;subst h206;have h205 : x12.roles.length ≤ 4294967296 := by have := h205; simpa using this
           obtain ⟨l13, b209, H210⟩ := zbi H204;obtain ⟨h211, h212⟩ := qj_ b209;have h211 : t316.length + 1 ≤ 4294967296 := h211;have h213 : List.map eGFact t316 ++ [[.v (.int .i64 6), .v (.string x12.name), .v (.string ByteArray.empty), .v (.string ByteArray.empty), .v (.int .i64 x12.n_), .sl (List.map eS x12.roles), .v (.int .i64 0)]] = List.map eGFact l13 := qm_ eGFact h212
           have h214 : t316.length + 1 = l13.length := qn_ h212;have h215 : l13.length ≤ 4294967296 := by omega
           have q216 : 0 < l13.length := by omega
           refine Z1 (Y2 (Y6 c195 (zno .i64 h199) h201 (qx_ (f := eS) (fun _ => rfl) x12.roles) (qF_ (n := 1) (f := eS) (fun _ => rfl) x12.roles) h205) (Y4 h211 h213 h214 h215)) ?_;refine qf_ (by (cases t316 <;> rfl)) ?_
           refine Z1 (Y2 (Y6 c195 (zno .i64 h199) h201 (qx_ (f := eS) (fun _ => rfl) x12.roles) (qF_ (n := 1) (f := eS) (fun _ => rfl) x12.roles) h205) (Y4 h211 h213 h214 h215)) ?_;rcases t316 with _ | ⟨q0, q1⟩
           ·try simp only [List.map_nil, accI, accN]
            exact ⟨⟨((c, (l13, (IntKind.i64.wrap (t9 + 1)))), 0), H210⟩, ZR [(5, 5), (6, 35)], Nat.lt_succ_self _⟩
           ·try simp only [List.map_cons, accI, accN]
            exact ⟨⟨((c, (l13, (IntKind.i64.wrap (t9 + 1)))), (g21 + 1)), H210⟩, ZR [(5, 5), (6, 6)], Nat.lt_succ_self _⟩
          ·refine Z1 c195 ?_
           obtain rfl := Zi H196;exact ⟨⟨⟨t316, rfl⟩, g21⟩, ZR [(5, 5), (6, 6)]⟩
       ·rintro ⟨⟨t318, he313⟩, g23⟩
        obtain rfl := he313.symm;try dsimp only at H171
        refine zsq (zsq ?_);refine ZT 1 ?_;refine Z0 ?_;obtain ⟨e_8, E217, H218⟩ := zbi H171
        refine zjn (α := { y : List GFact // e_8 = y } × Nat) (fun | ⟨⟨t321, _⟩, g27⟩ => ⟨upd 1 (.pt 5 0) (upd 3 (accV 6 g27 (List.map eGFact t321)) noFr), upd 0 (some (.bx [.d (.sl (List.map eS t0.users)) true, .d (.sl (List.map eS t0.roles)) true, .d (.sl (List.map eGPair t0.inherit)) true, .d (.sl (List.map eGPair t0.assign)) true, .d (.sl (List.map eGGrant t0.grants)) true, .d (.sl (List.map eGSod t0.ssd)) true, .d (.sl (List.map eGSod t0.dsd)) true, .d (.sl (List.map eGSession t0.sessions)) true])) (upd 1 (some (.bx [.v (.slice none 0 0), .v (.slice none 0 0), .v (.slice none 0 0), .v (.slice none 0 0), .v (.slice none 0 0), .v (.slice none 0 0), .v (.slice none 0 0), .v (.slice none 0 0)])) (upd 5 (some (.bx [.d (.sl (List.map eS t0.users)) true, .d (.sl (List.map eS t0.roles)) true, .d (.sl (List.map eGPair t0.inherit)) true, .d (.sl (List.map eGPair t0.assign)) true, .d (.sl (List.map eGGrant t0.grants)) true, .d (.sl (List.map eGSod t0.ssd)) true, .d (.sl (List.map eGSod t0.dsd)) true, .d (.sl (List.map eGSession t0.sessions)) true])) (upd 6 (accO 7 g27 false (List.map eGFact t321)) noHp))), 7⟩) ?_ ?_
        ·refine zbk ?_
         refine zlp (α := { q : (Nat × (List GFact × Int)) × Nat // q9_ n t0 q.1.1 q.1.2 = some e_8 }) (fun | ⟨⟨⟨c, ⟨t319, t10⟩⟩, g25⟩, _⟩ => ⟨upd 1 (.pt 5 0) (upd 3 (accV 6 g25 (List.map eGFact t319)) (upd 10 (.v (.int .i64 t10)) noFr)), upd 0 (some (.bx [.d (.sl (List.map eS t0.users)) true, .d (.sl (List.map eS t0.roles)) true, .d (.sl (List.map eGPair t0.inherit)) true, .d (.sl (List.map eGPair t0.assign)) true, .d (.sl (List.map eGGrant t0.grants)) true, .d (.sl (List.map eGSod t0.ssd)) true, .d (.sl (List.map eGSod t0.dsd)) true, .d (.sl (List.map eGSession t0.sessions)) true])) (upd 1 (some (.bx [.v (.slice none 0 0), .v (.slice none 0 0), .v (.slice none 0 0), .v (.slice none 0 0), .v (.slice none 0 0), .v (.slice none 0 0), .v (.slice none 0 0), .v (.slice none 0 0)])) (upd 5 (some (.bx [.d (.sl (List.map eS t0.users)) true, .d (.sl (List.map eS t0.roles)) true, .d (.sl (List.map eGPair t0.inherit)) true, .d (.sl (List.map eGPair t0.assign)) true, .d (.sl (List.map eGGrant t0.grants)) true, .d (.sl (List.map eGSod t0.ssd)) true, .d (.sl (List.map eGSod t0.dsd)) true, .d (.sl (List.map eGSession t0.sessions)) true])) (upd 6 (accO 7 g25 false (List.map eGFact t319)) noHp))), 7⟩) (fun q => q.1.1.1) ⟨((n, (t318, 0)), g23), E217⟩ ?_ ?_
         ·exact ZR [(5, 5), (6, 6)]
         ·rintro ⟨⟨⟨c, ⟨t319, t10⟩⟩, g25⟩, L219⟩
          rcases c with _ | c
          ·exact Zx L219
          ·unfold q9_ at L219
           try dsimp only at L219
           refine ZT 1 ?_;refine Z0 ?_;rcases zit L219 with ⟨c242, H243⟩ | ⟨c242, H243⟩
           ·obtain ⟨x14, b244, H245⟩ := zbi H243
            obtain ⟨h246, h247⟩ := zix b244;try simp only [Int.reduceToNat, Int.toNat_natCast] at h247
            have h248 := qi_ eGSod h247;obtain ⟨l16, b250, H251⟩ := zbi H245;obtain ⟨h252, h253⟩ := qj_ b250;have h253 : x14.roles = l16 := h253;subst h253;have h252 : x14.roles.length ≤ 4294967296 := by have := h252; simpa using this
            obtain ⟨l17, b256, H257⟩ := zbi H251;obtain ⟨h258, h259⟩ := qj_ b256;have h258 : t319.length + 1 ≤ 4294967296 := h258;have h260 : List.map eGFact t319 ++ [[.v (.int .i64 7), .v (.string x14.name), .v (.string ByteArray.empty), .v (.string ByteArray.empty), .v (.int .i64 x14.n_), .sl (List.map eS x14.roles), .v (.int .i64 0)]] = List.map eGFact l17 := qm_ eGFact h259
            have h261 : t319.length + 1 = l17.length := qn_ h259;have h262 : l17.length ≤ 4294967296 := by omega
            have q263 : 0 < l17.length := by omega
            refine Z1 (Y2 (Y6 c242 (zno .i64 h246) h248 (qx_ (f := eS) (fun _ => rfl) x14.roles) (qF_ (n := 1) (f := eS) (fun _ => rfl) x14.roles) h252) (Y4 h258 h260 h261 h262)) ?_;refine qf_ (by (cases t319 <;> rfl)) ?_
            refine Z1 (Y2 (Y6 c242 (zno .i64 h246) h248 (qx_ (f := eS) (fun _ => rfl) x14.roles) (qF_ (n := 1) (f := eS) (fun _ => rfl) x14.roles) h252) (Y4 h258 h260 h261 h262)) ?_;rcases t319 with _ | ⟨q0, q1⟩
            ·try simp only [List.map_nil, accI, accN]
             exact ⟨⟨((c, (l17, (IntKind.i64.wrap (t10 + 1)))), 0), H257⟩, ZR [(5, 5), (6, 35)], Nat.lt_succ_self _⟩
            ·try simp only [List.map_cons, accI, accN]
             exact ⟨⟨((c, (l17, (IntKind.i64.wrap (t10 + 1)))), (g25 + 1)), H257⟩, ZR [(5, 5), (6, 6)], Nat.lt_succ_self _⟩
           ·refine Z1 c242 ?_
            obtain rfl := Zi H243;exact ⟨⟨⟨t319, rfl⟩, g25⟩, ZR [(5, 5), (6, 6)]⟩
        ·rintro ⟨⟨t321, he312⟩, g27⟩
         obtain rfl := he312.symm;try dsimp only at H218
         refine zsq (zsq ?_);refine ZT 1 ?_;refine Z0 ?_;obtain ⟨e_9, E264, H265⟩ := zbi H218
         refine zjn (α := { y : List GFact // e_9 = y } × Nat) (fun | ⟨⟨t324, _⟩, g31⟩ => ⟨upd 3 (accV 5 g31 (List.map eGFact t324)) noFr, upd 0 (some (.bx [.d (.sl (List.map eS t0.users)) true, .d (.sl (List.map eS t0.roles)) true, .d (.sl (List.map eGPair t0.inherit)) true, .d (.sl (List.map eGPair t0.assign)) true, .d (.sl (List.map eGGrant t0.grants)) true, .d (.sl (List.map eGSod t0.ssd)) true, .d (.sl (List.map eGSod t0.dsd)) true, .d (.sl (List.map eGSession t0.sessions)) true])) (upd 1 (some (.bx [.v (.slice none 0 0), .v (.slice none 0 0), .v (.slice none 0 0), .v (.slice none 0 0), .v (.slice none 0 0), .v (.slice none 0 0), .v (.slice none 0 0), .v (.slice none 0 0)])) (upd 5 (accO 7 g31 false (List.map eGFact t324)) noHp)), 6⟩) ?_ ?_
         ·refine zbk ?_
          refine zlp (α := { q : (Nat × (List GFact × Int)) × Nat // ja_ n t0 q.1.1 q.1.2 = some e_9 }) (fun | ⟨⟨⟨c, ⟨t322, t11⟩⟩, g29⟩, _⟩ => ⟨upd 1 (.pt 5 0) (upd 3 (accV 6 g29 (List.map eGFact t322)) (upd 11 (.v (.int .i64 t11)) noFr)), upd 0 (some (.bx [.d (.sl (List.map eS t0.users)) true, .d (.sl (List.map eS t0.roles)) true, .d (.sl (List.map eGPair t0.inherit)) true, .d (.sl (List.map eGPair t0.assign)) true, .d (.sl (List.map eGGrant t0.grants)) true, .d (.sl (List.map eGSod t0.ssd)) true, .d (.sl (List.map eGSod t0.dsd)) true, .d (.sl (List.map eGSession t0.sessions)) true])) (upd 1 (some (.bx [.v (.slice none 0 0), .v (.slice none 0 0), .v (.slice none 0 0), .v (.slice none 0 0), .v (.slice none 0 0), .v (.slice none 0 0), .v (.slice none 0 0), .v (.slice none 0 0)])) (upd 5 (some (.bx [.d (.sl (List.map eS t0.users)) true, .d (.sl (List.map eS t0.roles)) true, .d (.sl (List.map eGPair t0.inherit)) true, .d (.sl (List.map eGPair t0.assign)) true, .d (.sl (List.map eGGrant t0.grants)) true, .d (.sl (List.map eGSod t0.ssd)) true, .d (.sl (List.map eGSod t0.dsd)) true, .d (.sl (List.map eGSession t0.sessions)) true])) (upd 6 (accO 7 g29 false (List.map eGFact t322)) noHp))), 7⟩) (fun q => q.1.1.1) ⟨((n, (t321, 0)), g27), E264⟩ ?_ ?_
          ·exact ZR [(5, 5), (6, 6)]
          ·rintro ⟨⟨⟨c, ⟨t322, t11⟩⟩, g29⟩, L266⟩
           rcases c with _ | c
           ·exact Zx L266
           ·unfold ja_ at L266
            try dsimp only at L266
            refine ZT 1 ?_;refine Z0 ?_;rcases zit L266 with ⟨c289, H290⟩ | ⟨c289, H290⟩
            ·obtain ⟨x16, b291, H292⟩ := zbi H290
             obtain ⟨h293, h294⟩ := zix b291;try simp only [Int.reduceToNat, Int.toNat_natCast] at h294
             have h295 := qi_ eGSession h294;obtain ⟨l20, b297, H298⟩ := zbi H292;obtain ⟨h299, h300⟩ := qj_ b297;have h300 : x16.roles = l20 := h300;subst h300;have h299 : x16.roles.length ≤ 4294967296 := by have := h299; simpa using this
             obtain ⟨l21, b303, H304⟩ := zbi H298;obtain ⟨h305, h306⟩ := qj_ b303;have h305 : t322.length + 1 ≤ 4294967296 := h305;have h307 : List.map eGFact t322 ++ [[.v (.int .i64 8), .v (.string x16.name), .v (.string x16.user), .v (.string ByteArray.empty), .v (.int .i64 0), .sl (List.map eS x16.roles), .v (.int .i64 0)]] = List.map eGFact l21 := qm_ eGFact h306
             have h308 : t322.length + 1 = l21.length := qn_ h306;have h309 : l21.length ≤ 4294967296 := by omega
             have q310 : 0 < l21.length := by omega
             refine Z1 (Y2 (Y6 c289 (zno .i64 h293) h295 (qx_ (f := eS) (fun _ => rfl) x16.roles) (qF_ (n := 1) (f := eS) (fun _ => rfl) x16.roles) h299) (Y4 h305 h307 h308 h309)) ?_;refine qf_ (by (cases t322 <;> rfl)) ?_
             refine Z1 (Y2 (Y6 c289 (zno .i64 h293) h295 (qx_ (f := eS) (fun _ => rfl) x16.roles) (qF_ (n := 1) (f := eS) (fun _ => rfl) x16.roles) h299) (Y4 h305 h307 h308 h309)) ?_;rcases t322 with _ | ⟨q0, q1⟩
             ·try simp only [List.map_nil, accI, accN]
              exact ⟨⟨((c, (l21, (IntKind.i64.wrap (t11 + 1)))), 0), H304⟩, ZR [(5, 5), (6, 35)], Nat.lt_succ_self _⟩
             ·try simp only [List.map_cons, accI, accN]
              exact ⟨⟨((c, (l21, (IntKind.i64.wrap (t11 + 1)))), (g29 + 1)), H304⟩, ZR [(5, 5), (6, 6)], Nat.lt_succ_self _⟩
            ·refine Z1 c289 ?_
             obtain rfl := Zi H290;exact ⟨⟨⟨t322, rfl⟩, g29⟩, ZR [(5, 6)]⟩
         ·rintro ⟨⟨t324, he311⟩, g31⟩
          obtain rfl := he311.symm;try dsimp only at H265
          refine ZT 1 ?_;refine Z0 ?_;obtain rfl := Option.some.inj H265;exact fA_ ⟨⟨t324, rfl⟩, g31⟩ (ZR [(5, 5)])
 rintro v320 hp321 nx322 ⟨⟨⟨t2, he319⟩, g32⟩, rfl, rfl, rfl⟩;obtain rfl := he319.symm;try dsimp only at H2
 dsimp only;refine Z0 ?_;refine zsq (zsq ?_);refine ZT 1 ?_;refine Z0 ?_;obtain ⟨e_10, E323, H324⟩ := zbi H2
 refine zjn (α := { y : List GFact // e_10 = y } × Nat) (fun | ⟨⟨t327, _⟩, g36⟩ => ⟨upd 2 (.pt 0 0) (upd 3 (accV 1 g36 (List.map eGFact t327)) noFr), upd 0 (some (.bx [.v (.slice none 0 0), .v (.slice none 0 0), .v (.slice none 0 0), .v (.slice none 0 0), .v (.slice none 0 0), .v (.slice none 0 0), .v (.slice none 0 0), .v (.slice none 0 0)])) (upd 1 (accO 7 g36 false (List.map eGFact t327)) noHp), 2⟩) ?_ ?_
 ·refine zbk ?_
  refine zlp (α := { q : (Nat × (List GFact × Int)) × Nat // jw_ n q.1.1 q.1.2 = some e_10 }) (fun | ⟨⟨⟨c, ⟨t325, t43⟩⟩, g34⟩, _⟩ => ⟨upd 2 (.pt 0 0) (upd 3 (accV 1 g34 (List.map eGFact t325)) (upd 4 (.v (.int .i64 t43)) noFr)), upd 0 (some (.bx [.v (.slice none 0 0), .v (.slice none 0 0), .v (.slice none 0 0), .v (.slice none 0 0), .v (.slice none 0 0), .v (.slice none 0 0), .v (.slice none 0 0), .v (.slice none 0 0)])) (upd 1 (accO 7 g34 false (List.map eGFact t325)) noHp), 2⟩) (fun q => q.1.1.1) ⟨((n, (t2, 0)), g32), E323⟩ ?_ ?_
  ·exact ZR [(0, 1), (1, 5)]
  ·rintro ⟨⟨⟨c, ⟨t325, t43⟩⟩, g34⟩, L325⟩
   rcases c with _ | c
   ·exact Zx L325
   ·unfold jw_ at L325
    try dsimp only at L325
    refine ZT 1 ?_;refine Z0 ?_;rcases zit L325 with ⟨c345, H346⟩ | ⟨c345, H346⟩
    ·obtain ⟨x18, b347, H348⟩ := zbi H346
     obtain ⟨h349, h350⟩ := zix b347;try simp only [Int.reduceToNat, Int.toNat_natCast] at h350
     have h351 := qi_ eGFact h350;have h352 := zN_ h350;have q353 : 0 < t325.length := by omega
     obtain ⟨t232, b354, H355⟩ := zbi H348;refine Z1 (Y6 c345 (zno .i64 h349) h351 h352 (YV (f := eGFact) q353) (YO (f := eGFact) q353)) ?_;refine ZC0 (kq_ b354) ?_;obtain ⟨l23, b356, H357⟩ := zbi H355;have h358 : List.set t325 (Int.toNat t43) (⟨x18.kind, x18.a, x18.b, x18.c, x18.n_, t232, x18.at_⟩ : GFact) = l23 := Option.some.inj b356
     have h359 : List.set (List.map eGFact t325) (Int.toNat t43) [.v (.int .i64 x18.kind), .v (.string x18.a), .v (.string x18.b), .v (.string x18.c), .v (.int .i64 x18.n_), .sl (List.map eS t232), .v (.int .i64 x18.at_)] = List.map eGFact l23 := by rw [← h358, List.map_set]
     try simp only [List.map_cons, List.map_nil] at h359
     have h360 : t325.length = l23.length := by rw [← h358, List.length_set]
     have h361 : ∀ w, AV.so 1 w 0 t325.length = AV.so 1 w 0 l23.length := fun w => by rw [h360]
     have h362 : (Int.toNat t43) < l23.length := by omega
     have q363 : 0 < l23.length := by omega
     refine Z1 (Y2 (Y6 c345 (zno .i64 h349) h351 h352 (YV (f := eGFact) q353) (YO (f := eGFact) q353)) (Y3 h359 h361 h362)) ?_;exact ⟨⟨((c, (l23, (IntKind.i64.wrap (t43 + 1)))), g34), H357⟩, ZR [(0, 0), (1, 1)], Nat.lt_succ_self _⟩
    ·refine Z1 c345 ?_
     obtain rfl := Zi H346;exact ⟨⟨⟨t325, rfl⟩, g34⟩, ZR [(0, 0), (1, 1)]⟩
 ·rintro ⟨⟨t327, he606⟩, g36⟩
  obtain rfl := he606.symm;try dsimp only at H324
  refine zsq (ZT 1 ?_);refine Z0 ?_;obtain ⟨e_11, E364, H365⟩ := zbi H324
  refine qz_ (InlOK.mono (bV_ (α := { y : List GFact // e_11 = y } × Nat × Nat) qo_ Tryz.func36 rfl (by kernel_rfl) (by kernel_rfl) (by simp [Tryz.f36]) (fun | ⟨⟨t22, _⟩, ⟨g58, g59⟩⟩ => ⟨upd 2 (accV 7 g58 (List.map eGFact t22)) noFr, upd 0 (some (.bx [.v (.slice none 0 0), .v (.slice none 0 0), .v (.slice none 0 0), .v (.slice none 0 0), .v (.slice none 0 0), .v (.slice none 0 0), .v (.slice none 0 0), .v (.slice none 0 0)])) (upd 1 (accO 7 g59 false (List.map eGFact t327)) (upd 7 (accO 7 g58 false (List.map eGFact t22)) noHp)), 8⟩) (fun | ⟨⟨t22, _⟩, ⟨g58, g59⟩⟩ => accV 7 g58 (List.map eGFact t22)) (by rintro ⟨⟨t22, he556⟩, ⟨g58, g59⟩⟩; first | ((simp -implicitDefEqProofs only [go_sem, ↓reduceIte, Tryz.f36]) <;> rfl) | rfl) ?_) ?_)
  ·unfold ref13_Normal_C2_ref13_rising at E364
   try dsimp only at E364
   refine zsq (ZT 1 ?_);refine Z0 ?_;refine zsq (ZT 1 ?_);refine Z0 ?_;refine zsq (zsq ?_);refine ZT 1 ?_;refine Z0 ?_;obtain ⟨e_12, E366, H367⟩ := zbi E364
   refine zjn (α := { y : List GFact // e_12 = y } × Nat × Nat) (fun | ⟨⟨out3, _⟩, ⟨g56, g57⟩⟩ => ⟨upd 3 (accV 7 g56 (List.map eGFact out3)) noFr, upd 0 (some (.bx [.v (.slice none 0 0), .v (.slice none 0 0), .v (.slice none 0 0), .v (.slice none 0 0), .v (.slice none 0 0), .v (.slice none 0 0), .v (.slice none 0 0), .v (.slice none 0 0)])) (upd 1 (accO 7 g57 false (List.map eGFact t327)) (upd 7 (accO 7 g56 false (List.map eGFact out3)) noHp)), 8⟩) ?_ ?_
   ·refine zbk ?_
    refine zlp (α := { q : (Nat × (List GFact × Int)) × Nat × Nat // qI_ n t327 q.1.1 q.1.2 = some e_12 }) (fun | ⟨⟨⟨c, ⟨out, i⟩⟩, ⟨g42, g43⟩⟩, _⟩ => ⟨upd 0 (accV 1 g42 (List.map eGFact t327)) (upd 3 (accV 7 g43 (List.map eGFact out)) (upd 4 (.v (.int .i64 i)) noFr)), upd 0 (some (.bx [.v (.slice none 0 0), .v (.slice none 0 0), .v (.slice none 0 0), .v (.slice none 0 0), .v (.slice none 0 0), .v (.slice none 0 0), .v (.slice none 0 0), .v (.slice none 0 0)])) (upd 1 (accO 7 g42 false (List.map eGFact t327)) (upd 7 (accO 7 g43 false (List.map eGFact out)) noHp)), 8⟩) (fun q => q.1.1.1) ⟨((n, ([], 0)), (g36, 0)), E366⟩ ?_ ?_
    ·exact ZR []
    ·rintro ⟨⟨⟨c, ⟨out, i⟩⟩, ⟨g42, g43⟩⟩, L368⟩
     rcases c with _ | c
     ·exact Zx L368
     ·unfold qI_ at L368
      try dsimp only at L368
      refine zsq (ZT 1 ?_);refine Z0 ?_;rcases zit L368 with ⟨c401, H402⟩ | ⟨c401, H402⟩
      ·refine Z1 c401 ?_
       refine zsq (zbk ?_);refine zsq (ZT 1 ?_);refine Z1 c401 ?_;refine zsq ?_;obtain ⟨e_15, E403, H404⟩ := zbi H402
       refine zjn (α := { y : Int // e_15 = y } × Nat × Nat) (fun | ⟨⟨k4, _⟩, ⟨g50, g51⟩⟩ => ⟨upd 0 (accV 1 g50 (List.map eGFact t327)) (upd 3 (accV 7 g51 (List.map eGFact out)) (upd 4 (.v (.int .i64 i)) (upd 5 (.v (.int .i64 k4)) noFr))), upd 0 (some (.bx [.v (.slice none 0 0), .v (.slice none 0 0), .v (.slice none 0 0), .v (.slice none 0 0), .v (.slice none 0 0), .v (.slice none 0 0), .v (.slice none 0 0), .v (.slice none 0 0)])) (upd 1 (accO 7 g50 false (List.map eGFact t327)) (upd 7 (accO 7 g51 false (List.map eGFact out)) noHp)), 8⟩) ?_ ?_
       ·refine zbk ?_
        refine zlp (α := { q : (Nat × Int) × Nat × Nat // jA_ n t327 out i q.1.1 q.1.2 = some e_15 }) (fun | ⟨⟨⟨c, k2⟩, ⟨g46, g47⟩⟩, _⟩ => ⟨upd 0 (accV 1 g46 (List.map eGFact t327)) (upd 3 (accV 7 g47 (List.map eGFact out)) (upd 4 (.v (.int .i64 i)) (upd 5 (.v (.int .i64 k2)) noFr))), upd 0 (some (.bx [.v (.slice none 0 0), .v (.slice none 0 0), .v (.slice none 0 0), .v (.slice none 0 0), .v (.slice none 0 0), .v (.slice none 0 0), .v (.slice none 0 0), .v (.slice none 0 0)])) (upd 1 (accO 7 g46 false (List.map eGFact t327)) (upd 7 (accO 7 g47 false (List.map eGFact out)) noHp)), 8⟩) (fun q => q.1.1.1) ⟨((n, (out.length : Int)), (g42, g43)), E403⟩ ?_ ?_
        ·exact ZR [(7, 7)]
        ·rintro ⟨⟨⟨c, k2⟩, ⟨g46, g47⟩⟩, L405⟩
         rcases c with _ | c
         ·exact Zx L405
         ·unfold jA_ at L405
          try dsimp only at L405
          refine ZT 1 ?_;refine Z0 ?_;rcases zit L405 with ⟨c426, H427⟩ | ⟨c426, H427⟩
          ·obtain ⟨x22, b428, H429⟩ := zbi H427
           obtain ⟨h430, h431⟩ := zix b428;try simp only [Int.reduceToNat, Int.toNat_natCast] at h431
           have h432 := qi_ eGFact h431;have h433 := zN_ h431;have q434 : 0 < t327.length := by omega
           obtain ⟨x23, b435, H436⟩ := zbi H429;obtain ⟨h437, h438⟩ := zix b435;try simp only [Int.reduceToNat, Int.toNat_natCast] at h438
           have h439 := qi_ eGFact h438;have h440 := zN_ h438;have q441 : 0 < out.length := by omega
           obtain ⟨t272, b442, H443⟩ := zbi H436;refine Z1 (Y2 (Y6 c426 (zno .i64 h430) h432 h433 (YV (f := eGFact) q434) (YO (f := eGFact) q434)) (Y5 (zno .i64 h437) h439 h440 (YV (f := eGFact) q441) (YO (f := eGFact) q441))) ?_;refine ZD0 (vG_ b442) ?_
           refine Z1 (Y2 (Y6 c426 (zno .i64 h430) h432 h433 (YV (f := eGFact) q434) (YO (f := eGFact) q434)) (Y5 (zno .i64 h437) h439 h440 (YV (f := eGFact) q441) (YO (f := eGFact) q441))) ?_;refine qf_ (by rfl) ?_
           refine Z1 (Y2 (Y6 c426 (zno .i64 h430) h432 h433 (YV (f := eGFact) q434) (YO (f := eGFact) q434)) (Y5 (zno .i64 h437) h439 h440 (YV (f := eGFact) q441) (YO (f := eGFact) q441))) ?_;rcases zit H443 with ⟨c444, H445⟩ | ⟨c444, H445⟩
           ·refine Z1 (Y2 (Y6 c426 (zno .i64 h430) h432 h433 (YV (f := eGFact) q434) (YO (f := eGFact) q434)) (Y6 (zno .i64 h437) h439 h440 (YV (f := eGFact) q441) (YO (f := eGFact) q441) c444)) ?_
            exact ⟨⟨((c, (IntKind.i64.wrap (k2 - 1))), (g46, g47)), H445⟩, ZR [(7, 7)], Nat.lt_succ_self _⟩
           ·refine Z1 (Y2 (Y6 c426 (zno .i64 h430) h432 h433 (YV (f := eGFact) q434) (YO (f := eGFact) q434)) (Y6 (zno .i64 h437) h439 h440 (YV (f := eGFact) q441) (YO (f := eGFact) q441) c444)) ?_
            obtain rfl := Zi H445;exact ⟨⟨⟨k2, rfl⟩, (g46, g47)⟩, ZR [(7, 7)]⟩
          ·refine Z1 c426 ?_
           refine qf_ (by rfl) ?_;refine Z1 c426 ?_;obtain rfl := Zi H427;exact ⟨⟨⟨k2, rfl⟩, (g46, g47)⟩, ZR [(7, 7)]⟩
       ·rintro ⟨⟨k4, he554⟩, ⟨g50, g51⟩⟩
        obtain rfl := he554.symm;try dsimp only at H404
        refine zsq (zsq ?_);obtain ⟨e_16, E446, H447⟩ := zbi H404
        refine zjn (α := { y : Bool // e_16 = y } × Nat × Nat) (fun | ⟨⟨t45, _⟩, ⟨g52, g53⟩⟩ => ⟨upd 0 (accV 1 g52 (List.map eGFact t327)) (upd 3 (accV 7 g53 (List.map eGFact out)) (upd 4 (.v (.int .i64 i)) (upd 5 (.v (.int .i64 k4)) (upd 45 (.v (.bool t45)) noFr)))), upd 0 (some (.bx [.v (.slice none 0 0), .v (.slice none 0 0), .v (.slice none 0 0), .v (.slice none 0 0), .v (.slice none 0 0), .v (.slice none 0 0), .v (.slice none 0 0), .v (.slice none 0 0)])) (upd 1 (accO 7 g52 false (List.map eGFact t327)) (upd 7 (accO 7 g53 false (List.map eGFact out)) noHp)), 8⟩) ?_ ?_
        ·refine ZT 1 ?_
         refine Z0 ?_;rcases zit E446 with ⟨c448, H449⟩ | ⟨c448, H449⟩
         ·obtain ⟨x24, b450, H451⟩ := zbi H449
          obtain ⟨h452, h453⟩ := zix b450;try simp only [Int.reduceToNat, Int.toNat_natCast] at h453
          have h454 := qi_ eGFact h453;have h455 := zN_ h453;have q456 : 0 < out.length := by omega
          obtain ⟨x25, b457, H458⟩ := zbi H451;obtain ⟨h459, h460⟩ := zix b457;try simp only [Int.reduceToNat, Int.toNat_natCast] at h460
          have h461 := qi_ eGFact h460;have h462 := zN_ h460;have q463 : 0 < t327.length := by omega
          obtain ⟨t432, b464, H465⟩ := zbi H458;refine Z1 (Y2 (Y6 c448 (zno .i64 h452) h454 h455 (YV (f := eGFact) q456) (YO (f := eGFact) q456)) (Y5 (zno .i64 h459) h461 h462 (YV (f := eGFact) q463) (YO (f := eGFact) q463))) ?_;refine ZD0 (vG_ b464) ?_
          refine Z1 (Y2 (Y6 c448 (zno .i64 h452) h454 h455 (YV (f := eGFact) q456) (YO (f := eGFact) q456)) (Y5 (zno .i64 h459) h461 h462 (YV (f := eGFact) q463) (YO (f := eGFact) q463))) ?_;refine qf_ (by rfl) ?_
          refine Z1 (Y2 (Y6 c448 (zno .i64 h452) h454 h455 (YV (f := eGFact) q456) (YO (f := eGFact) q456)) (Y5 (zno .i64 h459) h461 h462 (YV (f := eGFact) q463) (YO (f := eGFact) q463))) ?_;obtain rfl := Zi H465;exact ⟨⟨⟨(!t432), rfl⟩, (g50, g51)⟩, ZR [(7, 7)]⟩
         ·refine Z1 c448 ?_
          refine qf_ (by rfl) ?_;refine Z1 c448 ?_;obtain rfl := Zi H449;exact ⟨⟨⟨false, rfl⟩, (g50, g51)⟩, ZR [(7, 7)]⟩
        ·rintro ⟨⟨t45, he553⟩, ⟨g52, g53⟩⟩
         obtain rfl := he553.symm;try dsimp only at H447
         refine ZT 4 ?_;refine Z0 ?_;rcases zit H447 with ⟨c466, H467⟩ | ⟨c466, H467⟩
         ·refine Z1 c466 ?_
          exact ⟨⟨((c, (out, (IntKind.i64.wrap (i + 1)))), (g52, g53)), H467⟩, ZR [(7, 7)], Nat.lt_succ_self _⟩
         ·refine Z1 c466 ?_
          rcases zit H467 with ⟨c468, H469⟩ | ⟨c468, H469⟩
          ·have e470 : out = [] := List.eq_nil_of_length_eq_zero (of_decide_eq_true c468)
           subst e470;simp only [List.map_nil, w6_, yz_];try simp only [accK, accB]
           obtain ⟨l26, b471, H472⟩ := zbi H469;obtain ⟨h473, h474, h475, h476⟩ := v5_ b471;simp only [List.length_nil, Int.natCast_zero] at h475;have h477 : 0 ≤ Int.toNat k4 := by first | omega | (simp only [List.length_nil, Int.natCast_zero] at *; omega)
           have h478 : Int.toNat k4 ≤ 0 := by first | omega | (simp only [List.length_nil, Int.natCast_zero] at *; omega)
           obtain ⟨x26, b479, H480⟩ := zbi H472;obtain ⟨h481, h482⟩ := zix b479;try simp only [Int.reduceToNat, Int.toNat_natCast] at h482
           have h483 := qi_ eGFact h482;have h484 := zN_ h482;have q485 : 0 < t327.length := by omega
           obtain ⟨l27, b486, H487⟩ := zbi H480;obtain ⟨h488, h489, h490, h491⟩ := v5_ b486;simp only [List.length_nil, Int.natCast_zero] at h490;have h492 : Int.toNat k4 ≤ 0 := by first | omega | (simp only [List.length_nil, Int.natCast_zero] at *; omega)
           have h493 : 0 ≤ 0 := by first | omega | (simp only [List.length_nil, Int.natCast_zero] at *; omega)
           refine Z1 (Y2 (Y6 c466 (zno .i64 (Int.le_trans h473 h474)) h477 h478 (zno .i64 h481) h483) (Y6 h484 (YV (f := eGFact) q485) (YO (f := eGFact) q485) (zno .i64 h488) h492 h493)) ?_;refine qf_ (by rfl) ?_
           refine Z1 (Y2 (Y6 c466 (zno .i64 (Int.le_trans h473 h474)) h477 h478 (zno .i64 h481) h483) (Y6 h484 (YV (f := eGFact) q485) (YO (f := eGFact) q485) (zno .i64 h488) h492 h493)) ?_;exact ⟨⟨((c, ([x26], (IntKind.i64.wrap (i + 1)))), (g52, 3)), H487⟩, ZR [(7, 8)], Nat.lt_succ_self _⟩
          ·have q494 : 0 < out.length := by have := of_decide_eq_false c468; omega
           have h495 : ∀ i, accK i (List.map eGFact out) = [i] := fun i => by cases hx : out with | nil => (rw [hx] at q494; simp at q494) | cons a r => rfl
           have h496 : ∀ b, accB b (List.map eGFact out) = b := fun b => by cases hx : out with | nil => (rw [hx] at q494; simp at q494) | cons a r => rfl
           obtain ⟨l28, b497, H498⟩ := zbi H469;obtain ⟨h499, h500, h501, h502⟩ := v5_ b497;have h503 : 0 ≤ Int.toNat k4 := by omega
           have h504 : Int.toNat k4 ≤ out.length := by omega
           have h506 : Int.toNat k4 - 0 = l28.length := by rw [h502]; simp; try omega
           have h505 : List.take l28.length (List.map eGFact out) = List.map eGFact l28 := p1_ eGFact h502;try simp only [Int.toNat_natCast] at h503 h504 h505 h506
           obtain ⟨l29, b507, H508⟩ := zbi H498;obtain ⟨h509, h510⟩ := qj_ b507;have h510 : l28 = l29 := h510;subst h510;have h509 : l28.length ≤ 4294967296 := by have := h509; simpa using this
           obtain ⟨x27, b513, H514⟩ := zbi H508;obtain ⟨h515, h516⟩ := zix b513;try simp only [Int.reduceToNat, Int.toNat_natCast] at h516
           have h517 := qi_ eGFact h516;have h518 := zN_ h516;have q519 : 0 < t327.length := by omega
           obtain ⟨l30, b520, H521⟩ := zbi H514;obtain ⟨h522, h523⟩ := qj_ b520;have h522 : l28.length + 1 ≤ 4294967296 := h522;have h524 : List.map eGFact l28 ++ [[.v (.int .i64 x27.kind), .v (.string x27.a), .v (.string x27.b), .v (.string x27.c), .v (.int .i64 x27.n_), .sl (List.map eS x27.l), .v (.int .i64 x27.at_)]] = List.map eGFact l30 := qm_ eGFact h523
           have h525 : l28.length + 1 = l30.length := qn_ h523;have h526 : l30.length ≤ 4294967296 := by omega
           have q527 : 0 < l30.length := by omega
           obtain ⟨l31, b528, H529⟩ := zbi H521;obtain ⟨h530, h531, h532, h533⟩ := v5_ b528;have h534 : Int.toNat k4 ≤ out.length := by omega
           have h535 : out.length ≤ out.length := by omega
           simp only [Int.toNat_natCast, List.take_length] at h533;have h537 : out.length - Int.toNat k4 = l31.length := by rw [h533]; simp; try omega
           have h536 : List.take l31.length (List.drop (Int.toNat k4) (List.map eGFact out)) = List.map eGFact l31 := gR_ eGFact h533;try simp only [Int.toNat_natCast] at h534 h535 h536 h537
           refine Z1 (Y5 (Y6 c466 c468 h495 h496 q494 (YV (f := eGFact) q494)) (Y6 (YO (f := eGFact) q494) (zno .i64 (Int.le_trans h499 h500)) h503 h504 h506 h505) (Y6 (qF_ (n := 7) (f := eGFact) (fun _ => rfl) l28) h509 (zno .i64 h515) h517 h518 (YV (f := eGFact) q519)) (Y6 (YO (f := eGFact) q519) h522 h524 h525 h526 (zno .i64 h530)) (Y4 h534 h535 h537 h536)) ?_
           rcases zit H529 with ⟨c538, H539⟩ | ⟨c538, H539⟩
           ·have h540 : Int.toNat k4 < out.length := of_decide_eq_true c538
            obtain ⟨l32, b541, H542⟩ := zbi H539;obtain ⟨h543, h544⟩ := qj_ b541;have h543 : l30.length + l31.length ≤ 4294967296 := h543;have h545 : List.map eGFact l30 ++ List.map eGFact l31 = List.map eGFact l32 := qm_ eGFact h544;have h546 : l30.length + l31.length = l32.length := qn_ h544;have h547 : l32.length ≤ 4294967296 := by omega
            have q548 : 0 < l32.length := by omega
            refine Z1 (Y6 (Y6 c466 c468 h495 h496 q494 (YV (f := eGFact) q494)) (Y6 (YO (f := eGFact) q494) (zno .i64 (Int.le_trans h499 h500)) h503 h504 h506 h505) (Y6 (qF_ (n := 7) (f := eGFact) (fun _ => rfl) l28) h509 (zno .i64 h515) h517 h518 (YV (f := eGFact) q519)) (Y6 (YO (f := eGFact) q519) h522 h524 h525 h526 (zno .i64 h530)) (Y6 h534 h535 h537 h536 h540 (qF_ (n := 7) (f := eGFact) (fun _ => rfl) l31)) (Y4 h543 h545 h546 h547)) ?_
            refine qf_ (by rfl) ?_
            refine Z1 (Y6 (Y6 c466 c468 h495 h496 q494 (YV (f := eGFact) q494)) (Y6 (YO (f := eGFact) q494) (zno .i64 (Int.le_trans h499 h500)) h503 h504 h506 h505) (Y6 (qF_ (n := 7) (f := eGFact) (fun _ => rfl) l28) h509 (zno .i64 h515) h517 h518 (YV (f := eGFact) q519)) (Y6 (YO (f := eGFact) q519) h522 h524 h525 h526 (zno .i64 h530)) (Y6 h534 h535 h537 h536 h540 (qF_ (n := 7) (f := eGFact) (fun _ => rfl) l31)) (Y4 h543 h545 h546 h547)) ?_
            exact ⟨⟨((c, (l32, (IntKind.i64.wrap (i + 1)))), (g52, 3)), H542⟩, ZR [(7, 8)], Nat.lt_succ_self _⟩
           ·have h549 : ¬ Int.toNat k4 < out.length := of_decide_eq_false c538
            have h550 : l31 = [] := List.eq_nil_of_length_eq_zero (by omega);have h551 : ¬ Int.toNat k4 = 0 := by omega
            have h552 : l30.length ≤ 4294967296 := by omega
            try simp -implicitDefEqProofs only [go_sem, Bool.false_and, Nat.reduceLT, Nat.reduceEqDiff, Nat.reduceAdd, Nat.reduceLeDiff, ↓reduceIte, h526, h549, or_false, h551, Nat.add_zero, List.append_nil]
            refine qf_ (by rfl) ?_
            try simp -implicitDefEqProofs only [go_sem, Nat.reduceEqDiff, Nat.reduceAdd, reduceCtorEq, ↓reduceIte, Nat.zero_add]
            exact ⟨⟨((c, (l30, (IntKind.i64.wrap (i + 1)))), (g52, 3)), H539⟩, ZR [(7, 8)], Nat.lt_succ_self _⟩
      ·refine Z1 c401 ?_
       obtain rfl := Zi H402;exact ⟨⟨⟨out, rfl⟩, (g43, g42)⟩, ZR [(7, 7)]⟩
   ·rintro ⟨⟨out3, he555⟩, ⟨g56, g57⟩⟩
    obtain rfl := he555.symm;try dsimp only at H367
    refine ZT 1 ?_;refine Z0 ?_;obtain rfl := Option.some.inj H367;exact fA_ ⟨⟨out3, rfl⟩, (g56, g57)⟩ (ZR [(7, 7)])
  rintro v557 hp558 nx559 ⟨⟨⟨t22, he556⟩, ⟨g58, g59⟩⟩, rfl, rfl, rfl⟩;obtain rfl := he556.symm;try dsimp only at H365
  dsimp only;obtain ⟨t28, b560, H561⟩ := zbi H365;refine Z0 ?_;refine ZC0 (uo_ b560) ?_;refine Z0 ?_;refine zsq (ZT 1 ?_);obtain ⟨t31, b562, H563⟩ := zbi H561;refine Z0 ?_;refine ZC0 (g2_ b562) ?_;refine Z0 ?_;rcases zit H563 with ⟨c564, H565⟩ | ⟨c564, H565⟩
  ·refine Z1 c564 ?_
   obtain rfl := Zi H565;exact ZE0
  ·refine Z1 c564 ?_
   refine zsq (ZT 1 ?_);refine Z1 c564 ?_;refine zsq (zsq ?_);refine ZT 1 ?_;refine Z1 c564 ?_;obtain ⟨e_17, E566, H567⟩ := zbi H565
   refine zjn (α := { y : List GPair // e_17 = y } × Nat) (fun | ⟨⟨t65, _⟩, g62⟩ => ⟨upd 2 (.pt 0 0) (upd 5 (.pt 1 0) (upd 6 (accV 2 g62 (List.map eGPair t65)) noFr)), upd 0 (some (.bx [.v (.slice none 0 0), .v (.slice none 0 0), .v (.slice none 0 0), .v (.slice none 0 0), .v (.slice none 0 0), .v (.slice none 0 0), .v (.slice none 0 0), .v (.slice none 0 0)])) (upd 1 (some (.bx [.d (.sl (List.map eS t28.users)) false, .d (.sl (List.map eS t28.roles)) false, .d (.sl (List.map eGPair t28.inherit)) false, .d (.sl (List.map eGPair t28.assign)) false, .d (.sl (List.map eGGrant t28.grants)) false, .d (.sl (List.map eGSod t28.ssd)) false, .d (.sl (List.map eGSod t28.dsd)) false, .d (.sl (List.map eGSession t28.sessions)) false])) (upd 2 (accO 2 g62 false (List.map eGPair t65)) noHp)), 3⟩) ?_ ?_
   ·refine zbk ?_
    refine zlp (α := { q : (Nat × (List GPair × Int)) × Nat // qX_ n t28 q.1.1 q.1.2 = some e_17 }) (fun | ⟨⟨⟨c, ⟨t63, t73⟩⟩, g60⟩, _⟩ => ⟨upd 2 (.pt 0 0) (upd 5 (.pt 1 0) (upd 6 (accV 2 g60 (List.map eGPair t63)) (upd 7 (.v (.int .i64 t73)) noFr))), upd 0 (some (.bx [.v (.slice none 0 0), .v (.slice none 0 0), .v (.slice none 0 0), .v (.slice none 0 0), .v (.slice none 0 0), .v (.slice none 0 0), .v (.slice none 0 0), .v (.slice none 0 0)])) (upd 1 (some (.bx [.d (.sl (List.map eS t28.users)) false, .d (.sl (List.map eS t28.roles)) false, .d (.sl (List.map eGPair t28.inherit)) false, .d (.sl (List.map eGPair t28.assign)) false, .d (.sl (List.map eGGrant t28.grants)) false, .d (.sl (List.map eGSod t28.ssd)) false, .d (.sl (List.map eGSod t28.dsd)) false, .d (.sl (List.map eGSession t28.sessions)) false])) (upd 2 (accO 2 g60 false (List.map eGPair t63)) noHp)), 3⟩) (fun q => q.1.1.1) ⟨((n, ([], 0)), 0), E566⟩ ?_ ?_
    ·exact ZR [(0, 0), (1, 5)]
    ·rintro ⟨⟨⟨c, ⟨t63, t73⟩⟩, g60⟩, L568⟩
     rcases c with _ | c
     ·exact Zx L568
     ·unfold qX_ at L568
      try dsimp only at L568
      refine ZT 1 ?_;refine Z0 ?_;rcases zit L568 with ⟨c583, H584⟩ | ⟨c583, H584⟩
      ·obtain ⟨x29, b585, H586⟩ := zbi H584
       obtain ⟨h587, h588⟩ := zix b585;try simp only [Int.reduceToNat, Int.toNat_natCast] at h588
       have h589 := qi_ eGPair h588;obtain ⟨t492, b591, H592⟩ := zbi H586;refine Z1 (Y3 c583 (zno .i64 h587) h589) ?_;refine ZD0 (zl_ b591) ?_;obtain ⟨t562, b593, H594⟩ := zbi H592;refine Z1 (Y3 c583 (zno .i64 h587) h589) ?_;refine ZD0 (wO_ b593) ?_;refine Z1 (Y3 c583 (zno .i64 h587) h589) ?_;refine qf_ (by rfl) ?_;refine Z1 (Y3 c583 (zno .i64 h587) h589) ?_
       rcases zit H594 with ⟨c595, H596⟩ | ⟨c595, H596⟩
       ·refine Z1 (Y4 c583 (zno .i64 h587) h589 c595) ?_
        exact ⟨⟨((c, (t63, (IntKind.i64.wrap (t73 + 1)))), g60), H596⟩, ZR [(0, 0), (1, 1), (2, 2)], Nat.lt_succ_self _⟩
       ·obtain ⟨l33, b597, H598⟩ := zbi H596
        obtain ⟨h599, h600⟩ := qj_ b597;have h599 : t63.length + 1 ≤ 4294967296 := h599;have h601 : List.map eGPair t63 ++ [[.v (.string x29.a), .v (.string x29.b)]] = List.map eGPair l33 := qm_ eGPair h600;have h602 : t63.length + 1 = l33.length := qn_ h600;have h603 : l33.length ≤ 4294967296 := by omega
        have q604 : 0 < l33.length := by omega
        refine Z1 (Y2 (Y6 c583 (zno .i64 h587) h589 c595 h599 h601) (Y2 h602 h603)) ?_;rcases t63 with _ | ⟨q0, q1⟩
        ·try simp only [List.map_nil, accI, accN]
         exact ⟨⟨((c, (l33, (IntKind.i64.wrap (t73 + 1)))), 0), H598⟩, ZR [(0, 0), (1, 1), (2, 33)], Nat.lt_succ_self _⟩
        ·try simp only [List.map_cons, accI, accN]
         exact ⟨⟨((c, (l33, (IntKind.i64.wrap (t73 + 1)))), (g60 + 1)), H598⟩, ZR [(0, 0), (1, 1), (2, 2)], Nat.lt_succ_self _⟩
      ·refine Z1 c583 ?_
       obtain rfl := Zi H584;exact ⟨⟨⟨t63, rfl⟩, g60⟩, ZR [(0, 0), (1, 1), (2, 2)]⟩
   ·rintro ⟨⟨t65, he605⟩, g62⟩
    obtain rfl := he605.symm;try dsimp only at H567
    refine ZT 1 ?_;refine Z0 ?_;obtain rfl := Zi H567;exact ZE0
def vH_ (n : Nat) (p : GRoles) (role : ByteArray) : Option (List ByteArray) :=
 (xb_ n p.inherit role false (-1)).bind fun t8 =>
 some t8
theorem g3_ {n : Nat} {p : GRoles} {role : ByteArray} {r : List ByteArray} (H : vH_ n p role = some r) : PureOK Tryz.prog 22 [D.ag (eGRoles p), D.v (.string role)] (D.sl (List.map eS r)) true := by
 unfold vH_ at H;refine ZP qo_ fol (rs := #[.tmp 4]) Tryz.func22 ?_;refine ZT 1 ?_;obtain ⟨t8, b1, H2⟩ := zbi H;refine Z0 ?_;refine ZC0 (zl_ b1) ?_;refine Z0 ?_;obtain rfl := Zi H2;exact ZE0
def ks_ (n : Nat) (p : GRoles) (role : ByteArray) : Option (List ByteArray) :=
 (xb_ n p.inherit role true (-1)).bind fun t8 =>
 some t8
theorem dQ_ {n : Nat} {p : GRoles} {role : ByteArray} {r : List ByteArray} (H : ks_ n p role = some r) : PureOK Tryz.prog 23 [D.ag (eGRoles p), D.v (.string role)] (D.sl (List.map eS r)) true := by
 unfold ks_ at H;refine ZP qo_ fol (rs := #[.tmp 4]) Tryz.func23 ?_;refine ZT 1 ?_;obtain ⟨t8, b1, H2⟩ := zbi H;refine Z0 ?_;refine ZC0 (zl_ b1) ?_;refine Z0 ?_;obtain rfl := Zi H2;exact ZE0
end Go.Proofs.YtkkhgdmmbhpckaaGreat.Ab
