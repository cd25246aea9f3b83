/-
 Functions, read off the code.
-/
import Derived.Test.YtkkhgdmmbhpckaaGreatNxb
namespace Go.Proofs.YtkkhgdmmbhpckaaGreat.Ab
open Go.RowKit
def norm_Facts_L1 (n : Nat) (t0 : GRoles) : Nat → (List GFact × Int) → Option (List GFact)
 | 0, _ => none
 | c + 1, (t3, t23) =>
  (if (decide (t23 < (t0.users.length : Int))) then
   (idx t0.users t23).bind fun x2 =>
   (app t3 [(⟨1, x2, ByteArray.empty, ByteArray.empty, 0, [], 0⟩ : GFact)]).bind fun l =>
   norm_Facts_L1 n t0 c (l, (IntKind.i64.wrap (t23 + 1)))
  else
   some t3)
def norm_Facts_L1_f (_ : Nat) (_ : GRoles) (st : List GFact) (x2 : ByteArray) (k : List GFact → Option (List GFact)) : Option (List GFact) :=
 match st with
 | t3 =>
  (app t3 [(⟨1, x2, ByteArray.empty, ByteArray.empty, 0, [], 0⟩ : GFact)]).bind fun l =>
  k l
def norm_Facts_L1_e (_ : Nat) (_ : GRoles) (st : List GFact) : Option (List GFact) :=
 match st with
 | t3 => some t3
theorem norm_Facts_L1_list (n : Nat) (t0 : GRoles) (hx : t0.users.length < 4611686018427387904) (c : Nat) (st : List GFact) (ix : Nat) (hi : ix ≤ t0.users.length) (hc : t0.users.length - ix < c) : norm_Facts_L1 n t0 c (match st, (ix : Int) with | t3, ix => (t3, ix)) = foldK (norm_Facts_L1_f n t0) (norm_Facts_L1_e n t0) (t0.users.drop ix) st :=
 loop_list (fun c st ix => norm_Facts_L1 n t0 c (match st, ix with | t3, ix => (t3, ix))) t0.users (norm_Facts_L1_f n t0) (norm_Facts_L1_e n t0) (fun _ _ _ => rfl) hx c st ix hi hc

def norm_Facts_L2 (n : Nat) (t0 : GRoles) : Nat → (List GFact × Int) → Option (List GFact)
 | 0, _ => none
 | c + 1, (t34, t36) =>
  (if (decide (t36 < (t0.roles.length : Int))) then
   (idx t0.roles t36).bind fun x4 =>
   (app t34 [(⟨2, x4, ByteArray.empty, ByteArray.empty, 0, [], 0⟩ : GFact)]).bind fun l3 =>
   norm_Facts_L2 n t0 c (l3, (IntKind.i64.wrap (t36 + 1)))
  else
   some t34)
def norm_Facts_L2_f (_ : Nat) (_ : GRoles) (st : List GFact) (x4 : ByteArray) (k : List GFact → Option (List GFact)) : Option (List GFact) :=
 match st with
 | t34 =>
  (app t34 [(⟨2, x4, ByteArray.empty, ByteArray.empty, 0, [], 0⟩ : GFact)]).bind fun l3 =>
  k l3
def norm_Facts_L2_e (_ : Nat) (_ : GRoles) (st : List GFact) : Option (List GFact) :=
 match st with
 | t34 => some t34
theorem norm_Facts_L2_list (n : Nat) (t0 : GRoles) (hx : t0.roles.length < 4611686018427387904) (c : Nat) (st : List GFact) (ix : Nat) (hi : ix ≤ t0.roles.length) (hc : t0.roles.length - ix < c) : norm_Facts_L2 n t0 c (match st, (ix : Int) with | t34, ix => (t34, ix)) = foldK (norm_Facts_L2_f n t0) (norm_Facts_L2_e n t0) (t0.roles.drop ix) st :=
 loop_list (fun c st ix => norm_Facts_L2 n t0 c (match st, ix with | t34, ix => (t34, ix))) t0.roles (norm_Facts_L2_f n t0) (norm_Facts_L2_e n t0) (fun _ _ _ => rfl) hx c st ix hi hc

def norm_Facts_L3 (n : Nat) (t0 : GRoles) : Nat → (List GFact × Int) → Option (List GFact)
 | 0, _ => none
 | c + 1, (t38, t49) =>
  (if (decide (t49 < (t0.inherit.length : Int))) then
   (idx t0.inherit t49).bind fun x6 =>
   (app t38 [(⟨3, x6.a, x6.b, ByteArray.empty, 0, [], 0⟩ : GFact)]).bind fun l5 =>
   norm_Facts_L3 n t0 c (l5, (IntKind.i64.wrap (t49 + 1)))
  else
   some t38)
def norm_Facts_L3_f (_ : Nat) (_ : GRoles) (st : List GFact) (x6 : GPair) (k : List GFact → Option (List GFact)) : Option (List GFact) :=
 match st with
 | t38 =>
  (app t38 [(⟨3, x6.a, x6.b, ByteArray.empty, 0, [], 0⟩ : GFact)]).bind fun l5 =>
  k l5
def norm_Facts_L3_e (_ : Nat) (_ : GRoles) (st : List GFact) : Option (List GFact) :=
 match st with
 | t38 => some t38
theorem norm_Facts_L3_list (n : Nat) (t0 : GRoles) (hx : t0.inherit.length < 4611686018427387904) (c : Nat) (st : List GFact) (ix : Nat) (hi : ix ≤ t0.inherit.length) (hc : t0.inherit.length - ix < c) : norm_Facts_L3 n t0 c (match st, (ix : Int) with | t38, ix => (t38, ix)) = foldK (norm_Facts_L3_f n t0) (norm_Facts_L3_e n t0) (t0.inherit.drop ix) st :=
 loop_list (fun c st ix => norm_Facts_L3 n t0 c (match st, ix with | t38, ix => (t38, ix))) t0.inherit (norm_Facts_L3_f n t0) (norm_Facts_L3_e n t0) (fun _ _ _ => rfl) hx c st ix hi hc

def norm_Facts_L4 (n : Nat) (t0 : GRoles) : Nat → (List GFact × Int) → Option (List GFact)
 | 0, _ => none
 | c + 1, (t311, t65) =>
  (if (decide (t65 < (t0.assign.length : Int))) then
   (idx t0.assign t65).bind fun x8 =>
   (app t311 [(⟨4, x8.a, x8.b, ByteArray.empty, 0, [], 0⟩ : GFact)]).bind fun l7 =>
   norm_Facts_L4 n t0 c (l7, (IntKind.i64.wrap (t65 + 1)))
  else
   some t311)
def norm_Facts_L4_f (_ : Nat) (_ : GRoles) (st : List GFact) (x8 : GPair) (k : List GFact → Option (List GFact)) : Option (List GFact) :=
 match st with
 | t311 =>
  (app t311 [(⟨4, x8.a, x8.b, ByteArray.empty, 0, [], 0⟩ : GFact)]).bind fun l7 =>
  k l7
def norm_Facts_L4_e (_ : Nat) (_ : GRoles) (st : List GFact) : Option (List GFact) :=
 match st with
 | t311 => some t311
theorem norm_Facts_L4_list (n : Nat) (t0 : GRoles) (hx : t0.assign.length < 4611686018427387904) (c : Nat) (st : List GFact) (ix : Nat) (hi : ix ≤ t0.assign.length) (hc : t0.assign.length - ix < c) : norm_Facts_L4 n t0 c (match st, (ix : Int) with | t311, ix => (t311, ix)) = foldK (norm_Facts_L4_f n t0) (norm_Facts_L4_e n t0) (t0.assign.drop ix) st :=
 loop_list (fun c st ix => norm_Facts_L4 n t0 c (match st, ix with | t311, ix => (t311, ix))) t0.assign (norm_Facts_L4_f n t0) (norm_Facts_L4_e n t0) (fun _ _ _ => rfl) hx c st ix hi hc

def norm_Facts_L5 (n : Nat) (t0 : GRoles) : Nat → (List GFact × Int) → Option (List GFact)
 | 0, _ => none
 | c + 1, (t314, t81) =>
  (if (decide (t81 < (t0.grants.length : Int))) then
   (idx t0.grants t81).bind fun x10 =>
   (app t314 [(⟨5, x10.role, x10.op, x10.obj, 0, [], 0⟩ : GFact)]).bind fun l9 =>
   norm_Facts_L5 n t0 c (l9, (IntKind.i64.wrap (t81 + 1)))
  else
   some t314)
def norm_Facts_L5_f (_ : Nat) (_ : GRoles) (st : List GFact) (x10 : GGrant) (k : List GFact → Option (List GFact)) : Option (List GFact) :=
 match st with
 | t314 =>
  (app t314 [(⟨5, x10.role, x10.op, x10.obj, 0, [], 0⟩ : GFact)]).bind fun l9 =>
  k l9
def norm_Facts_L5_e (_ : Nat) (_ : GRoles) (st : List GFact) : Option (List GFact) :=
 match st with
 | t314 => some t314
theorem norm_Facts_L5_list (n : Nat) (t0 : GRoles) (hx : t0.grants.length < 4611686018427387904) (c : Nat) (st : List GFact) (ix : Nat) (hi : ix ≤ t0.grants.length) (hc : t0.grants.length - ix < c) : norm_Facts_L5 n t0 c (match st, (ix : Int) with | t314, ix => (t314, ix)) = foldK (norm_Facts_L5_f n t0) (norm_Facts_L5_e n t0) (t0.grants.drop ix) st :=
 loop_list (fun c st ix => norm_Facts_L5 n t0 c (match st, ix with | t314, ix => (t314, ix))) t0.grants (norm_Facts_L5_f n t0) (norm_Facts_L5_e n t0) (fun _ _ _ => rfl) hx c st ix hi hc

def norm_Facts_L6 (n : Nat) (t0 : GRoles) : Nat → (List GFact × Int) → Option (List GFact)
 | 0, _ => none
 | c + 1, (t317, t99) =>
  (if (decide (t99 < (t0.ssd.length : Int))) then
   (idx t0.ssd t99).bind fun x12 =>
   (if (decide (x12.roles.length = 0)) then
    (app t317 [(⟨6, x12.name, ByteArray.empty, ByteArray.empty, x12.n_, [], 0⟩ : GFact)]).bind fun l12 =>
    norm_Facts_L6 n t0 c (l12, (IntKind.i64.wrap (t99 + 1)))
   else
    grd (decide (x12.roles.length ≤ 4294967296)) <|
    (app t317 [(⟨6, x12.name, ByteArray.empty, ByteArray.empty, x12.n_, x12.roles, 0⟩ : GFact)]).bind fun l13 =>
    norm_Facts_L6 n t0 c (l13, (IntKind.i64.wrap (t99 + 1))))
  else
   some t317)
def norm_Facts_L6_f (_ : Nat) (_ : GRoles) (st : List GFact) (x12 : GSod) (k : List GFact → Option (List GFact)) : Option (List GFact) :=
 match st with
 | t317 =>
  (if (decide (x12.roles.length = 0)) then
   (app t317 [(⟨6, x12.name, ByteArray.empty, ByteArray.empty, x12.n_, [], 0⟩ : GFact)]).bind fun l12 =>
   k l12
  else
   grd (decide (x12.roles.length ≤ 4294967296)) <|
   (app t317 [(⟨6, x12.name, ByteArray.empty, ByteArray.empty, x12.n_, x12.roles, 0⟩ : GFact)]).bind fun l13 =>
   k l13)
def norm_Facts_L6_e (_ : Nat) (_ : GRoles) (st : List GFact) : Option (List GFact) :=
 match st with
 | t317 => some t317
theorem norm_Facts_L6_list (n : Nat) (t0 : GRoles) (hx : t0.ssd.length < 4611686018427387904) (c : Nat) (st : List GFact) (ix : Nat) (hi : ix ≤ t0.ssd.length) (hc : t0.ssd.length - ix < c) : norm_Facts_L6 n t0 c (match st, (ix : Int) with | t317, ix => (t317, ix)) = foldK (norm_Facts_L6_f n t0) (norm_Facts_L6_e n t0) (t0.ssd.drop ix) st :=
 loop_list (fun c st ix => norm_Facts_L6 n t0 c (match st, ix with | t317, ix => (t317, ix))) t0.ssd (norm_Facts_L6_f n t0) (norm_Facts_L6_e n t0) (fun _ _ _ => rfl) hx c st ix hi hc

def norm_Facts_L7 (n : Nat) (t0 : GRoles) : Nat → (List GFact × Int) → Option (List GFact)
 | 0, _ => none
 | c + 1, (t320, t118) =>
  (if (decide (t118 < (t0.dsd.length : Int))) then
   (idx t0.dsd t118).bind fun x14 =>
   (if (decide (x14.roles.length = 0)) then
    (app t320 [(⟨7, x14.name, ByteArray.empty, ByteArray.empty, x14.n_, [], 0⟩ : GFact)]).bind fun l16 =>
    norm_Facts_L7 n t0 c (l16, (IntKind.i64.wrap (t118 + 1)))
   else
    grd (decide (x14.roles.length ≤ 4294967296)) <|
    (app t320 [(⟨7, x14.name, ByteArray.empty, ByteArray.empty, x14.n_, x14.roles, 0⟩ : GFact)]).bind fun l17 =>
    norm_Facts_L7 n t0 c (l17, (IntKind.i64.wrap (t118 + 1))))
  else
   some t320)
def norm_Facts_L7_f (_ : Nat) (_ : GRoles) (st : List GFact) (x14 : GSod) (k : List GFact → Option (List GFact)) : Option (List GFact) :=
 match st with
 | t320 =>
  (if (decide (x14.roles.length = 0)) then
   (app t320 [(⟨7, x14.name, ByteArray.empty, ByteArray.empty, x14.n_, [], 0⟩ : GFact)]).bind fun l16 =>
   k l16
  else
   grd (decide (x14.roles.length ≤ 4294967296)) <|
   (app t320 [(⟨7, x14.name, ByteArray.empty, ByteArray.empty, x14.n_, x14.roles, 0⟩ : GFact)]).bind fun l17 =>
   k l17)
def norm_Facts_L7_e (_ : Nat) (_ : GRoles) (st : List GFact) : Option (List GFact) :=
 match st with
 | t320 => some t320
theorem norm_Facts_L7_list (n : Nat) (t0 : GRoles) (hx : t0.dsd.length < 4611686018427387904) (c : Nat) (st : List GFact) (ix : Nat) (hi : ix ≤ t0.dsd.length) (hc : t0.dsd.length - ix < c) : norm_Facts_L7 n t0 c (match st, (ix : Int) with | t320, ix => (t320, ix)) = foldK (norm_Facts_L7_f n t0) (norm_Facts_L7_e n t0) (t0.dsd.drop ix) st :=
 loop_list (fun c st ix => norm_Facts_L7 n t0 c (match st, ix with | t320, ix => (t320, ix))) t0.dsd (norm_Facts_L7_f n t0) (norm_Facts_L7_e n t0) (fun _ _ _ => rfl) hx c st ix hi hc

def norm_Facts_L8 (n : Nat) (t0 : GRoles) : Nat → (List GFact × Int) → Option (List GFact)
 | 0, _ => none
 | c + 1, (t323, t137) =>
  (if (decide (t137 < (t0.sessions.length : Int))) then
   (idx t0.sessions t137).bind fun x16 =>
   (if (decide (x16.roles.length = 0)) then
    (app t323 [(⟨8, x16.name, x16.user, ByteArray.empty, 0, [], 0⟩ : GFact)]).bind fun l20 =>
    norm_Facts_L8 n t0 c (l20, (IntKind.i64.wrap (t137 + 1)))
   else
    grd (decide (x16.roles.length ≤ 4294967296)) <|
    (app t323 [(⟨8, x16.name, x16.user, ByteArray.empty, 0, x16.roles, 0⟩ : GFact)]).bind fun l21 =>
    norm_Facts_L8 n t0 c (l21, (IntKind.i64.wrap (t137 + 1))))
  else
   some t323)
def norm_Facts_L8_f (_ : Nat) (_ : GRoles) (st : List GFact) (x16 : GSession) (k : List GFact → Option (List GFact)) : Option (List GFact) :=
 match st with
 | t323 =>
  (if (decide (x16.roles.length = 0)) then
   (app t323 [(⟨8, x16.name, x16.user, ByteArray.empty, 0, [], 0⟩ : GFact)]).bind fun l20 =>
   k l20
  else
   grd (decide (x16.roles.length ≤ 4294967296)) <|
   (app t323 [(⟨8, x16.name, x16.user, ByteArray.empty, 0, x16.roles, 0⟩ : GFact)]).bind fun l21 =>
   k l21)
def norm_Facts_L8_e (_ : Nat) (_ : GRoles) (st : List GFact) : Option (List GFact) :=
 match st with
 | t323 => some t323
theorem norm_Facts_L8_list (n : Nat) (t0 : GRoles) (hx : t0.sessions.length < 4611686018427387904) (c : Nat) (st : List GFact) (ix : Nat) (hi : ix ≤ t0.sessions.length) (hc : t0.sessions.length - ix < c) : norm_Facts_L8 n t0 c (match st, (ix : Int) with | t323, ix => (t323, ix)) = foldK (norm_Facts_L8_f n t0) (norm_Facts_L8_e n t0) (t0.sessions.drop ix) st :=
 loop_list (fun c st ix => norm_Facts_L8 n t0 c (match st, ix with | t323, ix => (t323, ix))) t0.sessions (norm_Facts_L8_f n t0) (norm_Facts_L8_e n t0) (fun _ _ _ => rfl) hx c st ix hi hc

def norm_Facts (n : Nat) (t0 : GRoles) : Option (List GFact) :=
 (
  norm_Facts_L1 n t0 n ([], 0) : Option (List GFact)).bind fun t33 =>
 (
  norm_Facts_L2 n t0 n (t33, 0) : Option (List GFact)).bind fun t37 =>
 (
  norm_Facts_L3 n t0 n (t37, 0) : Option (List GFact)).bind fun t310 =>
 (
  norm_Facts_L4 n t0 n (t310, 0) : Option (List GFact)).bind fun t313 =>
 (
  norm_Facts_L5 n t0 n (t313, 0) : Option (List GFact)).bind fun t316 =>
 (
  norm_Facts_L6 n t0 n (t316, 0) : Option (List GFact)).bind fun t319 =>
 (
  norm_Facts_L7 n t0 n (t319, 0) : Option (List GFact)).bind fun t322 =>
 (
  norm_Facts_L8 n t0 n (t322, 0) : Option (List GFact)).bind fun t325 =>
 some t325
set_option maxHeartbeats 8000000 in
theorem norm_Facts_ok {n : Nat} {t0 : GRoles} {r : List GFact} (H : norm_Facts n t0 = some r) : PureOK Tryz.prog 16 [D.ag (eGRoles t0)] (D.sl (List.map eGFact r)) true := by
 unfold norm_Facts at H
 refine pure_runR (tab := tab) tab_ok Tryz.func16 rfl (by kernel_rfl) (by kernel_rfl) (by simp [Tryz.f16]) ?_
 refine runR_seq ?_
 refine runR_take tab_ok fol 1 ?_
 try simp -implicitDefEqProofs only [go_sem, Nat.reduceAdd, eGRoles]
 refine runR_seq ?_
 refine runR_take tab_ok fol 1 ?_
 try simp -implicitDefEqProofs only [go_sem, Nat.reduceAdd]
 refine runR_seq ?_
 refine runR_seq ?_
 refine runR_take tab_ok fol 1 ?_
 try simp -implicitDefEqProofs only [go_sem, Nat.reduceEqDiff, Nat.reduceAdd, reduceCtorEq, ↓reduceIte]
 obtain ⟨e_, E1, H2⟩ := bind_inv H
 refine runR_join (α := { y : List GFact // e_ = y } × Nat) (fun | ⟨⟨t33, _⟩, g3⟩ => ⟨upd 1 (.pt 0 0) (upd 3 (accV 1 g3 (List.map eGFact t33)) noFr), upd 0 (some (.bx [.d (.sl (List.map eS t0.users)) true, .d (.sl (List.map eS t0.roles)) true, .d (.sl (List.map eGPair t0.inherit)) true, .d (.sl (List.map eGPair t0.assign)) true, .d (.sl (List.map eGGrant t0.grants)) true, .d (.sl (List.map eGSod t0.ssd)) true, .d (.sl (List.map eGSod t0.dsd)) true, .d (.sl (List.map eGSession t0.sessions)) true])) (upd 1 (accO 7 g3 false (List.map eGFact t33)) noHp), 2⟩) ?_ ?_
 ·refine runR_block ?_
  refine runR_loop (α := { q : (Nat × (List GFact × Int)) × Nat // norm_Facts_L1 n t0 q.1.1 q.1.2 = some e_ }) (fun | ⟨⟨⟨c, ⟨t3, t23⟩⟩, g⟩, _⟩ => ⟨upd 1 (.pt 0 0) (upd 3 (accV 1 g (List.map eGFact t3)) (upd 21 (.d (.sl (List.map eS t0.users)) true) (upd 22 (.v (.int .i64 (t0.users.length : Int))) (upd 23 (.v (.int .i64 t23)) noFr)))), upd 0 (some (.bx [.d (.sl (List.map eS t0.users)) true, .d (.sl (List.map eS t0.roles)) true, .d (.sl (List.map eGPair t0.inherit)) true, .d (.sl (List.map eGPair t0.assign)) true, .d (.sl (List.map eGGrant t0.grants)) true, .d (.sl (List.map eGSod t0.ssd)) true, .d (.sl (List.map eGSod t0.dsd)) true, .d (.sl (List.map eGSession t0.sessions)) true])) (upd 1 (accO 7 g false (List.map eGFact t3)) noHp), 2⟩) (fun q => q.1.1.1) ⟨((n, ([], 0)), 0), E1⟩ ?_ ?_
  ·exact ren_mk [(0, 0)] (by rfl) (ru_ (ru_ (ru_ (ru_ (ru_ (rf_no _)))))) (ro_ (rh_upd rh_accN (rh_no _)))
  ·rintro ⟨⟨⟨c, ⟨t3, t23⟩⟩, g⟩, L3⟩
   rcases c with _ | c
   ·exact nomatch (show none = some _ from L3)
   ·unfold norm_Facts_L1 at L3
    try dsimp only at L3
    refine runR_take tab_ok fol 1 ?_
    try simp -implicitDefEqProofs only [go_sem, Nat.reduceEqDiff, Nat.reduceAdd, ↓reduceIte]
    rcases ite_inv L3 with ⟨c12, H13⟩ | ⟨c12, H13⟩
    ·obtain ⟨x2, b14, H15⟩ := bind_inv H13
     obtain ⟨h16, h17⟩ := idx_inv b14
     try simp only [Int.reduceToNat, Int.toNat_natCast] at h17
     have h18 := map_at eS h17
     obtain ⟨l, b20, H21⟩ := bind_inv H15
     obtain ⟨h22, h23⟩ := app_inv b20
     have h22 : t3.length + 1 ≤ 4294967296 := h22
     have h24 : List.map eGFact t3 ++ [[.v (.int .i64 1), .v (.string x2), .v (.string ByteArray.empty), .v (.string ByteArray.empty), .v (.int .i64 0), .sl [], .v (.int .i64 0)]] = List.map eGFact l := app_map eGFact h23
     have h25 : t3.length + 1 = l.length := app_len h23
     have h26 : l.length ≤ 4294967296 := by omega
     have q27 : 0 < l.length := by omega
     try simp -implicitDefEqProofs only [go_sem, Nat.reduceLT, Nat.reduceEqDiff, Nat.reduceAdd, Nat.reduceMul, Nat.reduceLeDiff, reduceCtorEq, ↓reduceIte, c12, nat_of .i64 h16, h18, h24, h25, h26]
     rcases t3 with _ | ⟨q0, q1⟩
     ·try simp only [List.map_nil, accI, accN]
      exact ⟨⟨((c, (l, (IntKind.i64.wrap (t23 + 1)))), 0), H21⟩, ren_mk [(0, 0), (1, 10)] (by rfl) (ru_ (rf_upd (by exact ren_accP (by rfl) q27) (ru_ (ru_ (ru_ (rf_no _)))))) (ro_ (rh_upd (by exact rh_accP (by rfl) q27 (by rfl)) (rh_no _))), Nat.lt_succ_self _⟩
     ·try simp only [List.map_cons, accI, accN]
      exact ⟨⟨((c, (l, (IntKind.i64.wrap (t23 + 1)))), (g + 1)), H21⟩, ren_mk [(0, 0), (1, 1)] (by rfl) (ru_ (rf_upd (by exact ren_accP (by rfl) q27) (ru_ (ru_ (ru_ (rf_no _)))))) (ro_ (rh_upd (by exact rh_accP (by rfl) q27 (by rfl)) (rh_no _))), Nat.lt_succ_self _⟩
    ·try simp -implicitDefEqProofs only [go_sem, ↓reduceIte, c12]
     obtain rfl := Option.some.inj H13
     exact ⟨⟨⟨t3, rfl⟩, g⟩, ren_mk [(0, 0), (1, 1)] (by rfl) (ru_ (rn_ (rf_no _))) (ro_ (ra_ (rh_no _)))⟩
 ·rintro ⟨⟨t33, he382⟩, g3⟩
  replace he382 := he382.symm
  subst he382
  try dsimp only at H2
  refine runR_seq ?_
  refine runR_seq ?_
  refine runR_take tab_ok fol 1 ?_
  try simp -implicitDefEqProofs only [go_sem, Nat.reduceAdd, reduceCtorEq, ↓reduceIte]
  obtain ⟨e_2, E28, H29⟩ := bind_inv H2
  refine runR_join (α := { y : List GFact // e_2 = y } × Nat) (fun | ⟨⟨t37, _⟩, g7⟩ => ⟨upd 1 (.pt 0 0) (upd 3 (accV 1 g7 (List.map eGFact t37)) noFr), upd 0 (some (.bx [.d (.sl (List.map eS t0.users)) true, .d (.sl (List.map eS t0.roles)) true, .d (.sl (List.map eGPair t0.inherit)) true, .d (.sl (List.map eGPair t0.assign)) true, .d (.sl (List.map eGGrant t0.grants)) true, .d (.sl (List.map eGSod t0.ssd)) true, .d (.sl (List.map eGSod t0.dsd)) true, .d (.sl (List.map eGSession t0.sessions)) true])) (upd 1 (accO 7 g7 false (List.map eGFact t37)) noHp), 2⟩) ?_ ?_
  ·refine runR_block ?_
   refine runR_loop (α := { q : (Nat × (List GFact × Int)) × Nat // norm_Facts_L2 n t0 q.1.1 q.1.2 = some e_2 }) (fun | ⟨⟨⟨c, ⟨t34, t36⟩⟩, g5⟩, _⟩ => ⟨upd 1 (.pt 0 0) (upd 3 (accV 1 g5 (List.map eGFact t34)) (upd 34 (.d (.sl (List.map eS t0.roles)) true) (upd 35 (.v (.int .i64 (t0.roles.length : Int))) (upd 36 (.v (.int .i64 t36)) noFr)))), upd 0 (some (.bx [.d (.sl (List.map eS t0.users)) true, .d (.sl (List.map eS t0.roles)) true, .d (.sl (List.map eGPair t0.inherit)) true, .d (.sl (List.map eGPair t0.assign)) true, .d (.sl (List.map eGGrant t0.grants)) true, .d (.sl (List.map eGSod t0.ssd)) true, .d (.sl (List.map eGSod t0.dsd)) true, .d (.sl (List.map eGSession t0.sessions)) true])) (upd 1 (accO 7 g5 false (List.map eGFact t34)) noHp), 2⟩) (fun q => q.1.1.1) ⟨((n, (t33, 0)), g3), E28⟩ ?_ ?_
   ·exact ren_mk [(0, 0), (1, 1)] (by rfl) (ru_ (rn_ (ru_ (ru_ (ru_ (rf_no _)))))) (ro_ (ra_ (rh_no _)))
   ·rintro ⟨⟨⟨c, ⟨t34, t36⟩⟩, g5⟩, L30⟩
    rcases c with _ | c
    ·exact nomatch (show none = some _ from L30)
    ·unfold norm_Facts_L2 at L30
     try dsimp only at L30
     refine runR_take tab_ok fol 1 ?_
     try simp -implicitDefEqProofs only [go_sem, Nat.reduceEqDiff, Nat.reduceAdd, ↓reduceIte]
     rcases ite_inv L30 with ⟨c47, H48⟩ | ⟨c47, H48⟩
     ·obtain ⟨x4, b49, H50⟩ := bind_inv H48
      obtain ⟨h51, h52⟩ := idx_inv b49
      try simp only [Int.reduceToNat, Int.toNat_natCast] at h52
      have h53 := map_at eS h52
      obtain ⟨l3, b55, H56⟩ := bind_inv H50
      obtain ⟨h57, h58⟩ := app_inv b55
      have h57 : t34.length + 1 ≤ 4294967296 := h57
      have h59 : List.map eGFact t34 ++ [[.v (.int .i64 2), .v (.string x4), .v (.string ByteArray.empty), .v (.string ByteArray.empty), .v (.int .i64 0), .sl [], .v (.int .i64 0)]] = List.map eGFact l3 := app_map eGFact h58
      have h60 : t34.length + 1 = l3.length := app_len h58
      have h61 : l3.length ≤ 4294967296 := by omega
      have q62 : 0 < l3.length := by omega
      try simp -implicitDefEqProofs only [go_sem, Nat.reduceLT, Nat.reduceEqDiff, Nat.reduceAdd, Nat.reduceMul, Nat.reduceLeDiff, reduceCtorEq, ↓reduceIte, c47, nat_of .i64 h51, h53, h59, h60, h61]
      rcases t34 with _ | ⟨q0, q1⟩
      ·try simp only [List.map_nil, accI, accN]
       exact ⟨⟨((c, (l3, (IntKind.i64.wrap (t36 + 1)))), 0), H56⟩, ren_mk [(0, 0), (1, 10)] (by rfl) (ru_ (rf_upd (by exact ren_accP (by rfl) q62) (ru_ (ru_ (ru_ (rf_no _)))))) (ro_ (rh_upd (by exact rh_accP (by rfl) q62 (by rfl)) (rh_no _))), Nat.lt_succ_self _⟩
      ·try simp only [List.map_cons, accI, accN]
       exact ⟨⟨((c, (l3, (IntKind.i64.wrap (t36 + 1)))), (g5 + 1)), H56⟩, ren_mk [(0, 0), (1, 1)] (by rfl) (ru_ (rf_upd (by exact ren_accP (by rfl) q62) (ru_ (ru_ (ru_ (rf_no _)))))) (ro_ (rh_upd (by exact rh_accP (by rfl) q62 (by rfl)) (rh_no _))), Nat.lt_succ_self _⟩
     ·try simp -implicitDefEqProofs only [go_sem, ↓reduceIte, c47]
      obtain rfl := Option.some.inj H48
      exact ⟨⟨⟨t34, rfl⟩, g5⟩, ren_mk [(0, 0), (1, 1)] (by rfl) (ru_ (rn_ (rf_no _))) (ro_ (ra_ (rh_no _)))⟩
  ·rintro ⟨⟨t37, he381⟩, g7⟩
   replace he381 := he381.symm
   subst he381
   try dsimp only at H29
   refine runR_seq ?_
   refine runR_seq ?_
   refine runR_take tab_ok fol 1 ?_
   try simp -implicitDefEqProofs only [go_sem, Nat.reduceAdd, reduceCtorEq, ↓reduceIte]
   obtain ⟨e_3, E63, H64⟩ := bind_inv H29
   refine runR_join (α := { y : List GFact // e_3 = y } × Nat) (fun | ⟨⟨t310, _⟩, g11⟩ => ⟨upd 1 (.pt 0 0) (upd 3 (accV 1 g11 (List.map eGFact t310)) noFr), upd 0 (some (.bx [.d (.sl (List.map eS t0.users)) true, .d (.sl (List.map eS t0.roles)) true, .d (.sl (List.map eGPair t0.inherit)) true, .d (.sl (List.map eGPair t0.assign)) true, .d (.sl (List.map eGGrant t0.grants)) true, .d (.sl (List.map eGSod t0.ssd)) true, .d (.sl (List.map eGSod t0.dsd)) true, .d (.sl (List.map eGSession t0.sessions)) true])) (upd 1 (accO 7 g11 false (List.map eGFact t310)) noHp), 2⟩) ?_ ?_
   ·refine runR_block ?_
    refine runR_loop (α := { q : (Nat × (List GFact × Int)) × Nat // norm_Facts_L3 n t0 q.1.1 q.1.2 = some e_3 }) (fun | ⟨⟨⟨c, ⟨t38, t49⟩⟩, g9⟩, _⟩ => ⟨upd 1 (.pt 0 0) (upd 3 (accV 1 g9 (List.map eGFact t38)) (upd 47 (.d (.sl (List.map eGPair t0.inherit)) true) (upd 48 (.v (.int .i64 (t0.inherit.length : Int))) (upd 49 (.v (.int .i64 t49)) noFr)))), upd 0 (some (.bx [.d (.sl (List.map eS t0.users)) true, .d (.sl (List.map eS t0.roles)) true, .d (.sl (List.map eGPair t0.inherit)) true, .d (.sl (List.map eGPair t0.assign)) true, .d (.sl (List.map eGGrant t0.grants)) true, .d (.sl (List.map eGSod t0.ssd)) true, .d (.sl (List.map eGSod t0.dsd)) true, .d (.sl (List.map eGSession t0.sessions)) true])) (upd 1 (accO 7 g9 false (List.map eGFact t38)) noHp), 2⟩) (fun q => q.1.1.1) ⟨((n, (t37, 0)), g7), E63⟩ ?_ ?_
    ·exact ren_mk [(0, 0), (1, 1)] (by rfl) (ru_ (rn_ (ru_ (ru_ (ru_ (rf_no _)))))) (ro_ (ra_ (rh_no _)))
    ·rintro ⟨⟨⟨c, ⟨t38, t49⟩⟩, g9⟩, L65⟩
     rcases c with _ | c
     ·exact nomatch (show none = some _ from L65)
     ·unfold norm_Facts_L3 at L65
      try dsimp only at L65
      refine runR_take tab_ok fol 1 ?_
      try simp -implicitDefEqProofs only [go_sem, Nat.reduceEqDiff, Nat.reduceAdd, ↓reduceIte]
      rcases ite_inv L65 with ⟨c82, H83⟩ | ⟨c82, H83⟩
      ·obtain ⟨x6, b84, H85⟩ := bind_inv H83
       obtain ⟨h86, h87⟩ := idx_inv b84
       try simp only [Int.reduceToNat, Int.toNat_natCast] at h87
       have h88 := map_at eGPair h87
       obtain ⟨l5, b90, H91⟩ := bind_inv H85
       obtain ⟨h92, h93⟩ := app_inv b90
       have h92 : t38.length + 1 ≤ 4294967296 := h92
       have h94 : List.map eGFact t38 ++ [[.v (.int .i64 3), .v (.string x6.a), .v (.string x6.b), .v (.string ByteArray.empty), .v (.int .i64 0), .sl [], .v (.int .i64 0)]] = List.map eGFact l5 := app_map eGFact h93
       have h95 : t38.length + 1 = l5.length := app_len h93
       have h96 : l5.length ≤ 4294967296 := by omega
       have q97 : 0 < l5.length := by omega
       try simp -implicitDefEqProofs only [go_sem, Nat.reduceLT, Nat.reduceEqDiff, Nat.reduceAdd, Nat.reduceMul, Nat.reduceLeDiff, reduceCtorEq, ↓reduceIte, eGPair, c82, nat_of .i64 h86, h88, h94, h95, h96]
       rcases t38 with _ | ⟨q0, q1⟩
       ·try simp only [List.map_nil, accI, accN]
        exact ⟨⟨((c, (l5, (IntKind.i64.wrap (t49 + 1)))), 0), H91⟩, ren_mk [(0, 0), (1, 14)] (by rfl) (ru_ (rf_upd (by exact ren_accP (by rfl) q97) (ru_ (ru_ (ru_ (rf_no _)))))) (ro_ (rh_upd (by exact rh_accP (by rfl) q97 (by rfl)) (rh_no _))), Nat.lt_succ_self _⟩
       ·try simp only [List.map_cons, accI, accN]
        exact ⟨⟨((c, (l5, (IntKind.i64.wrap (t49 + 1)))), (g9 + 1)), H91⟩, ren_mk [(0, 0), (1, 1)] (by rfl) (ru_ (rf_upd (by exact ren_accP (by rfl) q97) (ru_ (ru_ (ru_ (rf_no _)))))) (ro_ (rh_upd (by exact rh_accP (by rfl) q97 (by rfl)) (rh_no _))), Nat.lt_succ_self _⟩
      ·try simp -implicitDefEqProofs only [go_sem, ↓reduceIte, c82]
       obtain rfl := Option.some.inj H83
       exact ⟨⟨⟨t38, rfl⟩, g9⟩, ren_mk [(0, 0), (1, 1)] (by rfl) (ru_ (rn_ (rf_no _))) (ro_ (ra_ (rh_no _)))⟩
   ·rintro ⟨⟨t310, he380⟩, g11⟩
    replace he380 := he380.symm
    subst he380
    try dsimp only at H64
    refine runR_seq ?_
    refine runR_seq ?_
    refine runR_take tab_ok fol 1 ?_
    try simp -implicitDefEqProofs only [go_sem, Nat.reduceAdd, reduceCtorEq, ↓reduceIte]
    obtain ⟨e_4, E98, H99⟩ := bind_inv H64
    refine runR_join (α := { y : List GFact // e_4 = y } × Nat) (fun | ⟨⟨t313, _⟩, g15⟩ => ⟨upd 1 (.pt 0 0) (upd 3 (accV 1 g15 (List.map eGFact t313)) noFr), upd 0 (some (.bx [.d (.sl (List.map eS t0.users)) true, .d (.sl (List.map eS t0.roles)) true, .d (.sl (List.map eGPair t0.inherit)) true, .d (.sl (List.map eGPair t0.assign)) true, .d (.sl (List.map eGGrant t0.grants)) true, .d (.sl (List.map eGSod t0.ssd)) true, .d (.sl (List.map eGSod t0.dsd)) true, .d (.sl (List.map eGSession t0.sessions)) true])) (upd 1 (accO 7 g15 false (List.map eGFact t313)) noHp), 2⟩) ?_ ?_
    ·refine runR_block ?_
     refine runR_loop (α := { q : (Nat × (List GFact × Int)) × Nat // norm_Facts_L4 n t0 q.1.1 q.1.2 = some e_4 }) (fun | ⟨⟨⟨c, ⟨t311, t65⟩⟩, g13⟩, _⟩ => ⟨upd 1 (.pt 0 0) (upd 3 (accV 1 g13 (List.map eGFact t311)) (upd 63 (.d (.sl (List.map eGPair t0.assign)) true) (upd 64 (.v (.int .i64 (t0.assign.length : Int))) (upd 65 (.v (.int .i64 t65)) noFr)))), upd 0 (some (.bx [.d (.sl (List.map eS t0.users)) true, .d (.sl (List.map eS t0.roles)) true, .d (.sl (List.map eGPair t0.inherit)) true, .d (.sl (List.map eGPair t0.assign)) true, .d (.sl (List.map eGGrant t0.grants)) true, .d (.sl (List.map eGSod t0.ssd)) true, .d (.sl (List.map eGSod t0.dsd)) true, .d (.sl (List.map eGSession t0.sessions)) true])) (upd 1 (accO 7 g13 false (List.map eGFact t311)) noHp), 2⟩) (fun q => q.1.1.1) ⟨((n, (t310, 0)), g11), E98⟩ ?_ ?_
     ·exact ren_mk [(0, 0), (1, 1)] (by rfl) (ru_ (rn_ (ru_ (ru_ (ru_ (rf_no _)))))) (ro_ (ra_ (rh_no _)))
     ·rintro ⟨⟨⟨c, ⟨t311, t65⟩⟩, g13⟩, L100⟩
      rcases c with _ | c
      ·exact nomatch (show none = some _ from L100)
      ·unfold norm_Facts_L4 at L100
       try dsimp only at L100
       refine runR_take tab_ok fol 1 ?_
       try simp -implicitDefEqProofs only [go_sem, Nat.reduceEqDiff, Nat.reduceAdd, ↓reduceIte]
       rcases ite_inv L100 with ⟨c117, H118⟩ | ⟨c117, H118⟩
       ·obtain ⟨x8, b119, H120⟩ := bind_inv H118
        obtain ⟨h121, h122⟩ := idx_inv b119
        try simp only [Int.reduceToNat, Int.toNat_natCast] at h122
        have h123 := map_at eGPair h122
        obtain ⟨l7, b125, H126⟩ := bind_inv H120
        obtain ⟨h127, h128⟩ := app_inv b125
        have h127 : t311.length + 1 ≤ 4294967296 := h127
        have h129 : List.map eGFact t311 ++ [[.v (.int .i64 4), .v (.string x8.a), .v (.string x8.b), .v (.string ByteArray.empty), .v (.int .i64 0), .sl [], .v (.int .i64 0)]] = List.map eGFact l7 := app_map eGFact h128
        have h130 : t311.length + 1 = l7.length := app_len h128
        have h131 : l7.length ≤ 4294967296 := by omega
        have q132 : 0 < l7.length := by omega
        try simp -implicitDefEqProofs only [go_sem, Nat.reduceLT, Nat.reduceEqDiff, Nat.reduceAdd, Nat.reduceMul, Nat.reduceLeDiff, reduceCtorEq, ↓reduceIte, eGPair, c117, nat_of .i64 h121, h123, h129, h130, h131]
        rcases t311 with _ | ⟨q0, q1⟩
        ·try simp only [List.map_nil, accI, accN]
         exact ⟨⟨((c, (l7, (IntKind.i64.wrap (t65 + 1)))), 0), H126⟩, ren_mk [(0, 0), (1, 14)] (by rfl) (ru_ (rf_upd (by exact ren_accP (by rfl) q132) (ru_ (ru_ (ru_ (rf_no _)))))) (ro_ (rh_upd (by exact rh_accP (by rfl) q132 (by rfl)) (rh_no _))), Nat.lt_succ_self _⟩
        ·try simp only [List.map_cons, accI, accN]
         exact ⟨⟨((c, (l7, (IntKind.i64.wrap (t65 + 1)))), (g13 + 1)), H126⟩, ren_mk [(0, 0), (1, 1)] (by rfl) (ru_ (rf_upd (by exact ren_accP (by rfl) q132) (ru_ (ru_ (ru_ (rf_no _)))))) (ro_ (rh_upd (by exact rh_accP (by rfl) q132 (by rfl)) (rh_no _))), Nat.lt_succ_self _⟩
       ·try simp -implicitDefEqProofs only [go_sem, ↓reduceIte, c117]
        obtain rfl := Option.some.inj H118
        exact ⟨⟨⟨t311, rfl⟩, g13⟩, ren_mk [(0, 0), (1, 1)] (by rfl) (ru_ (rn_ (rf_no _))) (ro_ (ra_ (rh_no _)))⟩
    ·rintro ⟨⟨t313, he379⟩, g15⟩
     replace he379 := he379.symm
     subst he379
     try dsimp only at H99
     refine runR_seq ?_
     refine runR_seq ?_
     refine runR_take tab_ok fol 1 ?_
     try simp -implicitDefEqProofs only [go_sem, Nat.reduceAdd, reduceCtorEq, ↓reduceIte]
     obtain ⟨e_5, E133, H134⟩ := bind_inv H99
     refine runR_join (α := { y : List GFact // e_5 = y } × Nat) (fun | ⟨⟨t316, _⟩, g19⟩ => ⟨upd 1 (.pt 0 0) (upd 3 (accV 1 g19 (List.map eGFact t316)) noFr), upd 0 (some (.bx [.d (.sl (List.map eS t0.users)) true, .d (.sl (List.map eS t0.roles)) true, .d (.sl (List.map eGPair t0.inherit)) true, .d (.sl (List.map eGPair t0.assign)) true, .d (.sl (List.map eGGrant t0.grants)) true, .d (.sl (List.map eGSod t0.ssd)) true, .d (.sl (List.map eGSod t0.dsd)) true, .d (.sl (List.map eGSession t0.sessions)) true])) (upd 1 (accO 7 g19 false (List.map eGFact t316)) noHp), 2⟩) ?_ ?_
     ·refine runR_block ?_
      refine runR_loop (α := { q : (Nat × (List GFact × Int)) × Nat // norm_Facts_L5 n t0 q.1.1 q.1.2 = some e_5 }) (fun | ⟨⟨⟨c, ⟨t314, t81⟩⟩, g17⟩, _⟩ => ⟨upd 1 (.pt 0 0) (upd 3 (accV 1 g17 (List.map eGFact t314)) (upd 79 (.d (.sl (List.map eGGrant t0.grants)) true) (upd 80 (.v (.int .i64 (t0.grants.length : Int))) (upd 81 (.v (.int .i64 t81)) noFr)))), upd 0 (some (.bx [.d (.sl (List.map eS t0.users)) true, .d (.sl (List.map eS t0.roles)) true, .d (.sl (List.map eGPair t0.inherit)) true, .d (.sl (List.map eGPair t0.assign)) true, .d (.sl (List.map eGGrant t0.grants)) true, .d (.sl (List.map eGSod t0.ssd)) true, .d (.sl (List.map eGSod t0.dsd)) true, .d (.sl (List.map eGSession t0.sessions)) true])) (upd 1 (accO 7 g17 false (List.map eGFact t314)) noHp), 2⟩) (fun q => q.1.1.1) ⟨((n, (t313, 0)), g15), E133⟩ ?_ ?_
      ·exact ren_mk [(0, 0), (1, 1)] (by rfl) (ru_ (rn_ (ru_ (ru_ (ru_ (rf_no _)))))) (ro_ (ra_ (rh_no _)))
      ·rintro ⟨⟨⟨c, ⟨t314, t81⟩⟩, g17⟩, L135⟩
       rcases c with _ | c
       ·exact nomatch (show none = some _ from L135)
       ·unfold norm_Facts_L5 at L135
        try dsimp only at L135
        refine runR_take tab_ok fol 1 ?_
        try simp -implicitDefEqProofs only [go_sem, Nat.reduceEqDiff, Nat.reduceAdd, ↓reduceIte]
        rcases ite_inv L135 with ⟨c152, H153⟩ | ⟨c152, H153⟩
        ·obtain ⟨x10, b154, H155⟩ := bind_inv H153
         obtain ⟨h156, h157⟩ := idx_inv b154
         try simp only [Int.reduceToNat, Int.toNat_natCast] at h157
         have h158 := map_at eGGrant h157
         obtain ⟨l9, b160, H161⟩ := bind_inv H155
         obtain ⟨h162, h163⟩ := app_inv b160
         have h162 : t314.length + 1 ≤ 4294967296 := h162
         have h164 : List.map eGFact t314 ++ [[.v (.int .i64 5), .v (.string x10.role), .v (.string x10.op), .v (.string x10.obj), .v (.int .i64 0), .sl [], .v (.int .i64 0)]] = List.map eGFact l9 := app_map eGFact h163
         have h165 : t314.length + 1 = l9.length := app_len h163
         have h166 : l9.length ≤ 4294967296 := by omega
         have q167 : 0 < l9.length := by omega
         try simp -implicitDefEqProofs only [go_sem, Nat.reduceLT, Nat.reduceEqDiff, Nat.reduceAdd, Nat.reduceMul, Nat.reduceLeDiff, reduceCtorEq, ↓reduceIte, eGGrant, c152, nat_of .i64 h156, h158, h164, h165, h166]
         rcases t314 with _ | ⟨q0, q1⟩
         ·try simp only [List.map_nil, accI, accN]
          exact ⟨⟨((c, (l9, (IntKind.i64.wrap (t81 + 1)))), 0), H161⟩, ren_mk [(0, 0), (1, 16)] (by rfl) (ru_ (rf_upd (by exact ren_accP (by rfl) q167) (ru_ (ru_ (ru_ (rf_no _)))))) (ro_ (rh_upd (by exact rh_accP (by rfl) q167 (by rfl)) (rh_no _))), Nat.lt_succ_self _⟩
         ·try simp only [List.map_cons, accI, accN]
          exact ⟨⟨((c, (l9, (IntKind.i64.wrap (t81 + 1)))), (g17 + 1)), H161⟩, ren_mk [(0, 0), (1, 1)] (by rfl) (ru_ (rf_upd (by exact ren_accP (by rfl) q167) (ru_ (ru_ (ru_ (rf_no _)))))) (ro_ (rh_upd (by exact rh_accP (by rfl) q167 (by rfl)) (rh_no _))), Nat.lt_succ_self _⟩
        ·try simp -implicitDefEqProofs only [go_sem, ↓reduceIte, c152]
         obtain rfl := Option.some.inj H153
         exact ⟨⟨⟨t314, rfl⟩, g17⟩, ren_mk [(0, 0), (1, 1)] (by rfl) (ru_ (rn_ (rf_no _))) (ro_ (ra_ (rh_no _)))⟩
     ·rintro ⟨⟨t316, he378⟩, g19⟩
      replace he378 := he378.symm
      subst he378
      try dsimp only at H134
      refine runR_seq ?_
      refine runR_seq ?_
      refine runR_take tab_ok fol 1 ?_
      try simp -implicitDefEqProofs only [go_sem, Nat.reduceAdd, reduceCtorEq, ↓reduceIte]
      obtain ⟨e_6, E168, H169⟩ := bind_inv H134
      refine runR_join (α := { y : List GFact // e_6 = y } × Nat) (fun | ⟨⟨t319, _⟩, g23⟩ => ⟨upd 1 (.pt 0 0) (upd 3 (accV 1 g23 (List.map eGFact t319)) noFr), upd 0 (some (.bx [.d (.sl (List.map eS t0.users)) true, .d (.sl (List.map eS t0.roles)) true, .d (.sl (List.map eGPair t0.inherit)) true, .d (.sl (List.map eGPair t0.assign)) true, .d (.sl (List.map eGGrant t0.grants)) true, .d (.sl (List.map eGSod t0.ssd)) true, .d (.sl (List.map eGSod t0.dsd)) true, .d (.sl (List.map eGSession t0.sessions)) true])) (upd 1 (accO 7 g23 false (List.map eGFact t319)) noHp), 2⟩) ?_ ?_
      ·refine runR_block ?_
       refine runR_loop (α := { q : (Nat × (List GFact × Int)) × Nat // norm_Facts_L6 n t0 q.1.1 q.1.2 = some e_6 }) (fun | ⟨⟨⟨c, ⟨t317, t99⟩⟩, g21⟩, _⟩ => ⟨upd 1 (.pt 0 0) (upd 3 (accV 1 g21 (List.map eGFact t317)) (upd 97 (.d (.sl (List.map eGSod t0.ssd)) true) (upd 98 (.v (.int .i64 (t0.ssd.length : Int))) (upd 99 (.v (.int .i64 t99)) noFr)))), upd 0 (some (.bx [.d (.sl (List.map eS t0.users)) true, .d (.sl (List.map eS t0.roles)) true, .d (.sl (List.map eGPair t0.inherit)) true, .d (.sl (List.map eGPair t0.assign)) true, .d (.sl (List.map eGGrant t0.grants)) true, .d (.sl (List.map eGSod t0.ssd)) true, .d (.sl (List.map eGSod t0.dsd)) true, .d (.sl (List.map eGSession t0.sessions)) true])) (upd 1 (accO 7 g21 false (List.map eGFact t317)) noHp), 2⟩) (fun q => q.1.1.1) ⟨((n, (t316, 0)), g19), E168⟩ ?_ ?_
       ·exact ren_mk [(0, 0), (1, 1)] (by rfl) (ru_ (rn_ (ru_ (ru_ (ru_ (rf_no _)))))) (ro_ (ra_ (rh_no _)))
       ·rintro ⟨⟨⟨c, ⟨t317, t99⟩⟩, g21⟩, L170⟩
        rcases c with _ | c
        ·exact nomatch (show none = some _ from L170)
        ·unfold norm_Facts_L6 at L170
         try dsimp only at L170
         refine runR_take tab_ok fol 1 ?_
         try simp -implicitDefEqProofs only [go_sem, Nat.reduceEqDiff, Nat.reduceAdd, ↓reduceIte]
         rcases ite_inv L170 with ⟨c204, H205⟩ | ⟨c204, H205⟩
         ·obtain ⟨x12, b206, H207⟩ := bind_inv H205
          obtain ⟨h208, h209⟩ := idx_inv b206
          try simp only [Int.reduceToNat, Int.toNat_natCast] at h209
          have h210 := map_at eGSod h209
          try simp -implicitDefEqProofs only [go_sem, Nat.reduceEqDiff, Nat.reduceAdd, reduceCtorEq, ↓reduceIte, eGSod, c204, nat_of .i64 h208, h210]
          rcases ite_inv H207 with ⟨c212, H213⟩ | ⟨c212, H213⟩
          ·try simp -implicitDefEqProofs only [go_sem, Bool.false_and, Int.reduceToNat, Int.reduceLT, Int.reduceLE, Int.reduceBEq, Int.reduceBNe, Nat.reduceLT, Nat.reduceBEq, Int.reduceEq, Nat.reduceEqDiff, Nat.reduceAdd, Nat.reduceSub, Nat.reduceMul, Nat.reduceLeDiff, reduceCtorEq, ↓reduceIte, eGPair, eGGrant, eGSod, eGSession, eGWord, eGLine, eGFact, eGRoles, c204, nat_of .i64 h208, h210, c212]
           refine onCallD_pure (by rfl) (cl28_0 x12.roles c212) (.inr rfl) ?_
           obtain ⟨l12, b214, H215⟩ := bind_inv H213
           obtain ⟨h216, h217⟩ := app_inv b214
           have h216 : t317.length + 1 ≤ 4294967296 := h216
           have h218 : List.map eGFact t317 ++ [[.v (.int .i64 6), .v (.string x12.name), .v (.string ByteArray.empty), .v (.string ByteArray.empty), .v (.int .i64 x12.n_), .sl [], .v (.int .i64 0)]] = List.map eGFact l12 := app_map eGFact h217
           have h219 : t317.length + 1 = l12.length := app_len h217
           have h220 : l12.length ≤ 4294967296 := by omega
           have q221 : 0 < l12.length := by omega
           try simp -implicitDefEqProofs only [go_sem, Bool.false_and, Nat.reduceLT, Nat.reduceEqDiff, Nat.reduceAdd, Nat.reduceMul, Nat.reduceLeDiff, reduceCtorEq, ↓reduceIte, h218, h219, h220]
           refine Rd_endF (by (cases t317 <;> rfl)) ?_
           try simp -implicitDefEqProofs only [go_sem, Nat.reduceEqDiff, Nat.reduceAdd, ↓reduceIte]
           rcases t317 with _ | ⟨q0, q1⟩
           ·try simp only [List.map_nil, accI, accN]
            exact ⟨⟨((c, (l12, (IntKind.i64.wrap (t99 + 1)))), 0), H215⟩, ren_mk [(0, 0), (1, 17)] (by rfl) (ru_ (rf_upd (by exact ren_accP (by rfl) q221) (ru_ (ru_ (ru_ (rf_no _)))))) (ro_ (rh_upd (by exact rh_accP (by rfl) q221 (by rfl)) (rh_no _))), Nat.lt_succ_self _⟩
           ·try simp only [List.map_cons, accI, accN]
            exact ⟨⟨((c, (l12, (IntKind.i64.wrap (t99 + 1)))), (g21 + 1)), H215⟩, ren_mk [(0, 0), (1, 1)] (by rfl) (ru_ (rf_upd (by exact ren_accP (by rfl) q221) (ru_ (ru_ (ru_ (rf_no _)))))) (ro_ (rh_upd (by exact rh_accP (by rfl) q221 (by rfl)) (rh_no _))), Nat.lt_succ_self _⟩
          ·obtain ⟨g222, H223⟩ := grd_inv H213
           have h224 : x12.roles.length ≤ 4294967296 := of_decide_eq_true g222
           have q225 : 0 < x12.roles.length := by have := of_decide_eq_false c212; omega
           try simp -implicitDefEqProofs only [go_sem, Bool.false_and, Int.reduceToNat, Int.reduceLT, Int.reduceLE, Int.reduceBEq, Int.reduceBNe, Nat.reduceLT, Nat.reduceBEq, Int.reduceEq, Nat.reduceEqDiff, Nat.reduceAdd, Nat.reduceSub, Nat.reduceMul, Nat.reduceLeDiff, reduceCtorEq, ↓reduceIte, eGPair, eGGrant, eGSod, eGSession, eGWord, eGLine, eGFact, eGRoles, c204, nat_of .i64 h208, h210, c212]
           refine onCallD_det (ids' := []) (v := .so 22 1 0 x12.roles.length) (δ := [(22, .rw (List.map eS x12.roles) 1 1 false false)]) (nx' := 26) (fun hp1 _ => InlOK.mono (cl28_in x12.roles q225 h224) fun v2 hp2 nx2 e => e) ?_
           obtain ⟨l13, b229, H230⟩ := bind_inv H223
           obtain ⟨h231, h232⟩ := app_inv b229
           have h231 : t317.length + 1 ≤ 4294967296 := h231
           have h233 : List.map eGFact t317 ++ [[.v (.int .i64 6), .v (.string x12.name), .v (.string ByteArray.empty), .v (.string ByteArray.empty), .v (.int .i64 x12.n_), .sl (List.map eS x12.roles), .v (.int .i64 0)]] = List.map eGFact l13 := app_map eGFact h232
           have h234 : t317.length + 1 = l13.length := app_len h232
           have h235 : l13.length ≤ 4294967296 := by omega
           have q236 : 0 < l13.length := by omega
           try simp -implicitDefEqProofs only [go_sem, Nat.reduceLT, Nat.reduceEqDiff, Nat.reduceAdd, Nat.reduceMul, Nat.reduceLeDiff, reduceCtorEq, ↓reduceIte, h233, h234, h235]
           refine Rd_endF (by (cases t317 <;> rfl)) ?_
           try simp -implicitDefEqProofs only [go_sem, Nat.reduceEqDiff, Nat.reduceAdd, ↓reduceIte]
           rcases t317 with _ | ⟨q0, q1⟩
           ·try simp only [List.map_nil, accI, accN]
            exact ⟨⟨((c, (l13, (IntKind.i64.wrap (t99 + 1)))), 0), H230⟩, ren_mk [(0, 0), (1, 17)] (by rfl) (ru_ (rf_upd (by exact ren_accP (by rfl) q236) (ru_ (ru_ (ru_ (rf_no _)))))) (ro_ (rh_upd (by exact rh_accP (by rfl) q236 (by rfl)) (rh_no _))), Nat.lt_succ_self _⟩
           ·try simp only [List.map_cons, accI, accN]
            exact ⟨⟨((c, (l13, (IntKind.i64.wrap (t99 + 1)))), (g21 + 1)), H230⟩, ren_mk [(0, 0), (1, 1)] (by rfl) (ru_ (rf_upd (by exact ren_accP (by rfl) q236) (ru_ (ru_ (ru_ (rf_no _)))))) (ro_ (rh_upd (by exact rh_accP (by rfl) q236 (by rfl)) (rh_no _))), Nat.lt_succ_self _⟩
         ·try simp -implicitDefEqProofs only [go_sem, ↓reduceIte, c204]
          obtain rfl := Option.some.inj H205
          exact ⟨⟨⟨t317, rfl⟩, g21⟩, ren_mk [(0, 0), (1, 1)] (by rfl) (ru_ (rn_ (rf_no _))) (ro_ (ra_ (rh_no _)))⟩
      ·rintro ⟨⟨t319, he377⟩, g23⟩
       replace he377 := he377.symm
       subst he377
       try dsimp only at H169
       refine runR_seq ?_
       refine runR_seq ?_
       refine runR_take tab_ok fol 1 ?_
       try simp -implicitDefEqProofs only [go_sem, Nat.reduceAdd, reduceCtorEq, ↓reduceIte]
       obtain ⟨e_7, E237, H238⟩ := bind_inv H169
       refine runR_join (α := { y : List GFact // e_7 = y } × Nat) (fun | ⟨⟨t322, _⟩, g27⟩ => ⟨upd 1 (.pt 0 0) (upd 3 (accV 1 g27 (List.map eGFact t322)) noFr), upd 0 (some (.bx [.d (.sl (List.map eS t0.users)) true, .d (.sl (List.map eS t0.roles)) true, .d (.sl (List.map eGPair t0.inherit)) true, .d (.sl (List.map eGPair t0.assign)) true, .d (.sl (List.map eGGrant t0.grants)) true, .d (.sl (List.map eGSod t0.ssd)) true, .d (.sl (List.map eGSod t0.dsd)) true, .d (.sl (List.map eGSession t0.sessions)) true])) (upd 1 (accO 7 g27 false (List.map eGFact t322)) noHp), 2⟩) ?_ ?_
       ·refine runR_block ?_
        refine runR_loop (α := { q : (Nat × (List GFact × Int)) × Nat // norm_Facts_L7 n t0 q.1.1 q.1.2 = some e_7 }) (fun | ⟨⟨⟨c, ⟨t320, t118⟩⟩, g25⟩, _⟩ => ⟨upd 1 (.pt 0 0) (upd 3 (accV 1 g25 (List.map eGFact t320)) (upd 116 (.d (.sl (List.map eGSod t0.dsd)) true) (upd 117 (.v (.int .i64 (t0.dsd.length : Int))) (upd 118 (.v (.int .i64 t118)) noFr)))), upd 0 (some (.bx [.d (.sl (List.map eS t0.users)) true, .d (.sl (List.map eS t0.roles)) true, .d (.sl (List.map eGPair t0.inherit)) true, .d (.sl (List.map eGPair t0.assign)) true, .d (.sl (List.map eGGrant t0.grants)) true, .d (.sl (List.map eGSod t0.ssd)) true, .d (.sl (List.map eGSod t0.dsd)) true, .d (.sl (List.map eGSession t0.sessions)) true])) (upd 1 (accO 7 g25 false (List.map eGFact t320)) noHp), 2⟩) (fun q => q.1.1.1) ⟨((n, (t319, 0)), g23), E237⟩ ?_ ?_
        ·exact ren_mk [(0, 0), (1, 1)] (by rfl) (ru_ (rn_ (ru_ (ru_ (ru_ (rf_no _)))))) (ro_ (ra_ (rh_no _)))
        ·rintro ⟨⟨⟨c, ⟨t320, t118⟩⟩, g25⟩, L239⟩
         rcases c with _ | c
         ·exact nomatch (show none = some _ from L239)
         ·unfold norm_Facts_L7 at L239
          try dsimp only at L239
          refine runR_take tab_ok fol 1 ?_
          try simp -implicitDefEqProofs only [go_sem, Nat.reduceEqDiff, Nat.reduceAdd, ↓reduceIte]
          rcases ite_inv L239 with ⟨c273, H274⟩ | ⟨c273, H274⟩
          ·obtain ⟨x14, b275, H276⟩ := bind_inv H274
           obtain ⟨h277, h278⟩ := idx_inv b275
           try simp only [Int.reduceToNat, Int.toNat_natCast] at h278
           have h279 := map_at eGSod h278
           try simp -implicitDefEqProofs only [go_sem, Nat.reduceEqDiff, Nat.reduceAdd, reduceCtorEq, ↓reduceIte, eGSod, c273, nat_of .i64 h277, h279]
           rcases ite_inv H276 with ⟨c281, H282⟩ | ⟨c281, H282⟩
           ·try simp -implicitDefEqProofs only [go_sem, Bool.false_and, Int.reduceToNat, Int.reduceLT, Int.reduceLE, Int.reduceBEq, Int.reduceBNe, Nat.reduceLT, Nat.reduceBEq, Int.reduceEq, Nat.reduceEqDiff, Nat.reduceAdd, Nat.reduceSub, Nat.reduceMul, Nat.reduceLeDiff, reduceCtorEq, ↓reduceIte, eGPair, eGGrant, eGSod, eGSession, eGWord, eGLine, eGFact, eGRoles, c273, nat_of .i64 h277, h279, c281]
            refine onCallD_pure (by rfl) (cl28_0 x14.roles c281) (.inr rfl) ?_
            obtain ⟨l16, b283, H284⟩ := bind_inv H282
            obtain ⟨h285, h286⟩ := app_inv b283
            have h285 : t320.length + 1 ≤ 4294967296 := h285
            have h287 : List.map eGFact t320 ++ [[.v (.int .i64 7), .v (.string x14.name), .v (.string ByteArray.empty), .v (.string ByteArray.empty), .v (.int .i64 x14.n_), .sl [], .v (.int .i64 0)]] = List.map eGFact l16 := app_map eGFact h286
            have h288 : t320.length + 1 = l16.length := app_len h286
            have h289 : l16.length ≤ 4294967296 := by omega
            have q290 : 0 < l16.length := by omega
            try simp -implicitDefEqProofs only [go_sem, Bool.false_and, Nat.reduceLT, Nat.reduceEqDiff, Nat.reduceAdd, Nat.reduceMul, Nat.reduceLeDiff, reduceCtorEq, ↓reduceIte, h287, h288, h289]
            refine Rd_endF (by (cases t320 <;> rfl)) ?_
            try simp -implicitDefEqProofs only [go_sem, Nat.reduceEqDiff, Nat.reduceAdd, ↓reduceIte]
            rcases t320 with _ | ⟨q0, q1⟩
            ·try simp only [List.map_nil, accI, accN]
             exact ⟨⟨((c, (l16, (IntKind.i64.wrap (t118 + 1)))), 0), H284⟩, ren_mk [(0, 0), (1, 17)] (by rfl) (ru_ (rf_upd (by exact ren_accP (by rfl) q290) (ru_ (ru_ (ru_ (rf_no _)))))) (ro_ (rh_upd (by exact rh_accP (by rfl) q290 (by rfl)) (rh_no _))), Nat.lt_succ_self _⟩
            ·try simp only [List.map_cons, accI, accN]
             exact ⟨⟨((c, (l16, (IntKind.i64.wrap (t118 + 1)))), (g25 + 1)), H284⟩, ren_mk [(0, 0), (1, 1)] (by rfl) (ru_ (rf_upd (by exact ren_accP (by rfl) q290) (ru_ (ru_ (ru_ (rf_no _)))))) (ro_ (rh_upd (by exact rh_accP (by rfl) q290 (by rfl)) (rh_no _))), Nat.lt_succ_self _⟩
           ·obtain ⟨g291, H292⟩ := grd_inv H282
            have h293 : x14.roles.length ≤ 4294967296 := of_decide_eq_true g291
            have q294 : 0 < x14.roles.length := by have := of_decide_eq_false c281; omega
            try simp -implicitDefEqProofs only [go_sem, Bool.false_and, Int.reduceToNat, Int.reduceLT, Int.reduceLE, Int.reduceBEq, Int.reduceBNe, Nat.reduceLT, Nat.reduceBEq, Int.reduceEq, Nat.reduceEqDiff, Nat.reduceAdd, Nat.reduceSub, Nat.reduceMul, Nat.reduceLeDiff, reduceCtorEq, ↓reduceIte, eGPair, eGGrant, eGSod, eGSession, eGWord, eGLine, eGFact, eGRoles, c273, nat_of .i64 h277, h279, c281]
            refine onCallD_det (ids' := []) (v := .so 22 1 0 x14.roles.length) (δ := [(22, .rw (List.map eS x14.roles) 1 1 false false)]) (nx' := 26) (fun hp1 _ => InlOK.mono (cl28_in x14.roles q294 h293) fun v2 hp2 nx2 e => e) ?_
            obtain ⟨l17, b298, H299⟩ := bind_inv H292
            obtain ⟨h300, h301⟩ := app_inv b298
            have h300 : t320.length + 1 ≤ 4294967296 := h300
            have h302 : List.map eGFact t320 ++ [[.v (.int .i64 7), .v (.string x14.name), .v (.string ByteArray.empty), .v (.string ByteArray.empty), .v (.int .i64 x14.n_), .sl (List.map eS x14.roles), .v (.int .i64 0)]] = List.map eGFact l17 := app_map eGFact h301
            have h303 : t320.length + 1 = l17.length := app_len h301
            have h304 : l17.length ≤ 4294967296 := by omega
            have q305 : 0 < l17.length := by omega
            try simp -implicitDefEqProofs only [go_sem, Nat.reduceLT, Nat.reduceEqDiff, Nat.reduceAdd, Nat.reduceMul, Nat.reduceLeDiff, reduceCtorEq, ↓reduceIte, h302, h303, h304]
            refine Rd_endF (by (cases t320 <;> rfl)) ?_
            try simp -implicitDefEqProofs only [go_sem, Nat.reduceEqDiff, Nat.reduceAdd, ↓reduceIte]
            rcases t320 with _ | ⟨q0, q1⟩
            ·try simp only [List.map_nil, accI, accN]
             exact ⟨⟨((c, (l17, (IntKind.i64.wrap (t118 + 1)))), 0), H299⟩, ren_mk [(0, 0), (1, 17)] (by rfl) (ru_ (rf_upd (by exact ren_accP (by rfl) q305) (ru_ (ru_ (ru_ (rf_no _)))))) (ro_ (rh_upd (by exact rh_accP (by rfl) q305 (by rfl)) (rh_no _))), Nat.lt_succ_self _⟩
            ·try simp only [List.map_cons, accI, accN]
             exact ⟨⟨((c, (l17, (IntKind.i64.wrap (t118 + 1)))), (g25 + 1)), H299⟩, ren_mk [(0, 0), (1, 1)] (by rfl) (ru_ (rf_upd (by exact ren_accP (by rfl) q305) (ru_ (ru_ (ru_ (rf_no _)))))) (ro_ (rh_upd (by exact rh_accP (by rfl) q305 (by rfl)) (rh_no _))), Nat.lt_succ_self _⟩
          ·try simp -implicitDefEqProofs only [go_sem, ↓reduceIte, c273]
           obtain rfl := Option.some.inj H274
           exact ⟨⟨⟨t320, rfl⟩, g25⟩, ren_mk [(0, 0), (1, 1)] (by rfl) (ru_ (rn_ (rf_no _))) (ro_ (ra_ (rh_no _)))⟩
       ·rintro ⟨⟨t322, he376⟩, g27⟩
        replace he376 := he376.symm
        subst he376
        try dsimp only at H238
        refine runR_seq ?_
        refine runR_seq ?_
        refine runR_take tab_ok fol 1 ?_
        try simp -implicitDefEqProofs only [go_sem, Nat.reduceAdd, reduceCtorEq, ↓reduceIte]
        obtain ⟨e_8, E306, H307⟩ := bind_inv H238
        refine runR_join (α := { y : List GFact // e_8 = y } × Nat) (fun | ⟨⟨t325, _⟩, g31⟩ => ⟨upd 3 (accV 0 g31 (List.map eGFact t325)) noFr, upd 0 (accO 7 g31 false (List.map eGFact t325)) noHp, 1⟩) ?_ ?_
        ·refine runR_block ?_
         refine runR_loop (α := { q : (Nat × (List GFact × Int)) × Nat // norm_Facts_L8 n t0 q.1.1 q.1.2 = some e_8 }) (fun | ⟨⟨⟨c, ⟨t323, t137⟩⟩, g29⟩, _⟩ => ⟨upd 3 (accV 0 g29 (List.map eGFact t323)) (upd 135 (.d (.sl (List.map eGSession t0.sessions)) true) (upd 136 (.v (.int .i64 (t0.sessions.length : Int))) (upd 137 (.v (.int .i64 t137)) noFr))), upd 0 (accO 7 g29 false (List.map eGFact t323)) noHp, 1⟩) (fun q => q.1.1.1) ⟨((n, (t322, 0)), g27), E306⟩ ?_ ?_
         ·exact ren_mk [(0, 1)] (by rfl) (rn_ (ru_ (ru_ (ru_ (rf_no _))))) (ra_ (rh_no _))
         ·rintro ⟨⟨⟨c, ⟨t323, t137⟩⟩, g29⟩, L308⟩
          rcases c with _ | c
          ·exact nomatch (show none = some _ from L308)
          ·unfold norm_Facts_L8 at L308
           try dsimp only at L308
           refine runR_take tab_ok fol 1 ?_
           try simp -implicitDefEqProofs only [go_sem, Nat.reduceEqDiff, Nat.reduceAdd, ↓reduceIte]
           rcases ite_inv L308 with ⟨c342, H343⟩ | ⟨c342, H343⟩
           ·obtain ⟨x16, b344, H345⟩ := bind_inv H343
            obtain ⟨h346, h347⟩ := idx_inv b344
            try simp only [Int.reduceToNat, Int.toNat_natCast] at h347
            have h348 := map_at eGSession h347
            try simp -implicitDefEqProofs only [go_sem, Nat.reduceEqDiff, Nat.reduceAdd, reduceCtorEq, ↓reduceIte, eGSession, c342, nat_of .i64 h346, h348]
            rcases ite_inv H345 with ⟨c350, H351⟩ | ⟨c350, H351⟩
            ·try simp -implicitDefEqProofs only [go_sem, Bool.false_and, Int.reduceToNat, Int.reduceLT, Int.reduceLE, Int.reduceBEq, Int.reduceBNe, Nat.reduceLT, Nat.reduceBEq, Int.reduceEq, Nat.reduceEqDiff, Nat.reduceAdd, Nat.reduceSub, Nat.reduceMul, Nat.reduceLeDiff, reduceCtorEq, ↓reduceIte, eGPair, eGGrant, eGSod, eGSession, eGWord, eGLine, eGFact, eGRoles, c342, nat_of .i64 h346, h348, c350]
             refine onCallD_pure (by rfl) (cl28_0 x16.roles c350) (.inr rfl) ?_
             obtain ⟨l20, b352, H353⟩ := bind_inv H351
             obtain ⟨h354, h355⟩ := app_inv b352
             have h354 : t323.length + 1 ≤ 4294967296 := h354
             have h356 : List.map eGFact t323 ++ [[.v (.int .i64 8), .v (.string x16.name), .v (.string x16.user), .v (.string ByteArray.empty), .v (.int .i64 0), .sl [], .v (.int .i64 0)]] = List.map eGFact l20 := app_map eGFact h355
             have h357 : t323.length + 1 = l20.length := app_len h355
             have h358 : l20.length ≤ 4294967296 := by omega
             have q359 : 0 < l20.length := by omega
             try simp -implicitDefEqProofs only [go_sem, Bool.false_and, Nat.reduceLT, Nat.reduceEqDiff, Nat.reduceAdd, Nat.reduceMul, Nat.reduceLeDiff, reduceCtorEq, ↓reduceIte, h356, h357, h358]
             refine Rd_endF (by (cases t323 <;> rfl)) ?_
             try simp -implicitDefEqProofs only [go_sem, Nat.reduceEqDiff, Nat.reduceAdd, ↓reduceIte]
             rcases t323 with _ | ⟨q0, q1⟩
             ·try simp only [List.map_nil, accI, accN]
              exact ⟨⟨((c, (l20, (IntKind.i64.wrap (t137 + 1)))), 0), H353⟩, ren_mk [(0, 16)] (by rfl) (rf_upd (by exact ren_accP (by rfl) q359) (ru_ (ru_ (ru_ (rf_no _))))) (rh_upd (by exact rh_accP (by rfl) q359 (by rfl)) (rh_no _)), Nat.lt_succ_self _⟩
             ·try simp only [List.map_cons, accI, accN]
              exact ⟨⟨((c, (l20, (IntKind.i64.wrap (t137 + 1)))), (g29 + 1)), H353⟩, ren_mk [(0, 0)] (by rfl) (rf_upd (by exact ren_accP (by rfl) q359) (ru_ (ru_ (ru_ (rf_no _))))) (rh_upd (by exact rh_accP (by rfl) q359 (by rfl)) (rh_no _)), Nat.lt_succ_self _⟩
            ·obtain ⟨g360, H361⟩ := grd_inv H351
             have h362 : x16.roles.length ≤ 4294967296 := of_decide_eq_true g360
             have q363 : 0 < x16.roles.length := by have := of_decide_eq_false c350; omega
             try simp -implicitDefEqProofs only [go_sem, Bool.false_and, Int.reduceToNat, Int.reduceLT, Int.reduceLE, Int.reduceBEq, Int.reduceBNe, Nat.reduceLT, Nat.reduceBEq, Int.reduceEq, Nat.reduceEqDiff, Nat.reduceAdd, Nat.reduceSub, Nat.reduceMul, Nat.reduceLeDiff, reduceCtorEq, ↓reduceIte, eGPair, eGGrant, eGSod, eGSession, eGWord, eGLine, eGFact, eGRoles, c342, nat_of .i64 h346, h348, c350]
             refine onCallD_det (ids' := []) (v := .so 21 1 0 x16.roles.length) (δ := [(21, .rw (List.map eS x16.roles) 1 1 false false)]) (nx' := 25) (fun hp1 _ => InlOK.mono (cl28_in x16.roles q363 h362) fun v2 hp2 nx2 e => e) ?_
             obtain ⟨l21, b367, H368⟩ := bind_inv H361
             obtain ⟨h369, h370⟩ := app_inv b367
             have h369 : t323.length + 1 ≤ 4294967296 := h369
             have h371 : List.map eGFact t323 ++ [[.v (.int .i64 8), .v (.string x16.name), .v (.string x16.user), .v (.string ByteArray.empty), .v (.int .i64 0), .sl (List.map eS x16.roles), .v (.int .i64 0)]] = List.map eGFact l21 := app_map eGFact h370
             have h372 : t323.length + 1 = l21.length := app_len h370
             have h373 : l21.length ≤ 4294967296 := by omega
             have q374 : 0 < l21.length := by omega
             try simp -implicitDefEqProofs only [go_sem, Nat.reduceLT, Nat.reduceEqDiff, Nat.reduceAdd, Nat.reduceMul, Nat.reduceLeDiff, reduceCtorEq, ↓reduceIte, h371, h372, h373]
             refine Rd_endF (by (cases t323 <;> rfl)) ?_
             try simp -implicitDefEqProofs only [go_sem, Nat.reduceEqDiff, Nat.reduceAdd, ↓reduceIte]
             rcases t323 with _ | ⟨q0, q1⟩
             ·try simp only [List.map_nil, accI, accN]
              exact ⟨⟨((c, (l21, (IntKind.i64.wrap (t137 + 1)))), 0), H368⟩, ren_mk [(0, 16)] (by rfl) (rf_upd (by exact ren_accP (by rfl) q374) (ru_ (ru_ (ru_ (rf_no _))))) (rh_upd (by exact rh_accP (by rfl) q374 (by rfl)) (rh_no _)), Nat.lt_succ_self _⟩
             ·try simp only [List.map_cons, accI, accN]
              exact ⟨⟨((c, (l21, (IntKind.i64.wrap (t137 + 1)))), (g29 + 1)), H368⟩, ren_mk [(0, 0)] (by rfl) (rf_upd (by exact ren_accP (by rfl) q374) (ru_ (ru_ (ru_ (rf_no _))))) (rh_upd (by exact rh_accP (by rfl) q374 (by rfl)) (rh_no _)), Nat.lt_succ_self _⟩
           ·try simp -implicitDefEqProofs only [go_sem, ↓reduceIte, c342]
            obtain rfl := Option.some.inj H343
            exact ⟨⟨⟨t323, rfl⟩, g29⟩, ren_mk [(0, 0)] (by rfl) (rn_ (rf_no _)) (ra_ (rh_no _))⟩
        ·rintro ⟨⟨t325, he375⟩, g31⟩
         replace he375 := he375.symm
         subst he375
         try dsimp only at H307
         refine runR_take tab_ok fol 1 ?_
         try simp -implicitDefEqProofs only [go_sem, Nat.reduceAdd, ↓reduceIte]
         obtain rfl := Option.some.inj H307
         exact end_pure (by simp -implicitDefEqProofs only [go_sem, ↓reduceIte, Tryz.f16] <;> rfl) (by simp -implicitDefEqProofs only [go_sem, ↓reduceIte]; rfl) rfl (by intro h; rfl)
def slices_Index_string_L1 (n : Nat) (s : List ByteArray) (v : ByteArray) : Nat → Int → Option ((Unit) ⊕ Int)
 | 0, _ => none
 | c + 1, t8 =>
  (if (decide (t8 < (s.length : Int))) then
   (idx s t8).bind fun x2 =>
   (if (v.toList == x2.toList) then
    some (.inr t8)
   else
    slices_Index_string_L1 n s v c (IntKind.i64.wrap (t8 + 1)))
  else
   some (.inl ()))

def slices_Index_string (n : Nat) (s : List ByteArray) (v : ByteArray) : Option Int :=
 (
  slices_Index_string_L1 n s v n 0 : Option ((Unit) ⊕ Int)).bind fun
  | .inl _ =>
   some (-1)
  | .inr r => some r
theorem slices_Index_string_ok {n : Nat} {s : List ByteArray} {v : ByteArray} {r : Int} (H : slices_Index_string n s v = some r) : PureOK Tryz.prog 81 [D.sl (List.map eS s), D.v (.string v)] (D.v (.int .i64 r)) true := by
 unfold slices_Index_string at H
 refine pure_runR (tab := tab) tab_ok Tryz.func81 rfl (by kernel_rfl) (by kernel_rfl) (by simp [Tryz.f81]) ?_
 refine runR_seq ?_
 refine runR_take tab_ok fol 1 ?_
 try simp -implicitDefEqProofs only [go_sem]
 refine runR_seq ?_
 refine runR_seq ?_
 refine runR_take tab_ok fol 1 ?_
 try simp -implicitDefEqProofs only [go_sem, Nat.reduceAdd, reduceCtorEq, ↓reduceIte]
 obtain ⟨e_, E1, H2⟩ := bind_inv H
 refine runR_join (α := { y : Unit // e_ = .inl y }) (fun | ⟨_, _⟩ => ⟨noFr, noHp, 0⟩) ?_ ?_
 ·refine runR_block ?_
  refine runR_loop (α := { q : Nat × Int // slices_Index_string_L1 n s v q.1 q.2 = some e_ }) (fun | ⟨⟨c, t8⟩, _⟩ => ⟨upd 0 (.d (.sl (List.map eS s)) true) (upd 1 (.v (.string v)) (upd 7 (.v (.int .i64 (s.length : Int))) (upd 8 (.v (.int .i64 t8)) noFr))), noHp, 0⟩) (fun q => q.1.1) ⟨(n, 0), E1⟩ ?_ ?_
  ·exact ren_mk [] (by rfl) (ru_ (ru_ (ru_ (ru_ (rf_no _))))) (rh_no _)
  ·rintro ⟨⟨c, t8⟩, L3⟩
   rcases c with _ | c
   ·exact nomatch (show none = some _ from L3)
   ·unfold slices_Index_string_L1 at L3
    try dsimp only at L3
    refine runR_take tab_ok fol 1 ?_
    try simp -implicitDefEqProofs only [go_sem, Nat.reduceEqDiff, reduceCtorEq, ↓reduceIte]
    rcases ite_inv L3 with ⟨c14, H15⟩ | ⟨c14, H15⟩
    ·obtain ⟨x2, b16, H17⟩ := bind_inv H15
     obtain ⟨h18, h19⟩ := idx_inv b16
     try simp only [Int.reduceToNat, Int.toNat_natCast] at h19
     have h20 := map_at eS h19
     try simp -implicitDefEqProofs only [go_sem, Nat.reduceEqDiff, Nat.reduceAdd, reduceCtorEq, ↓reduceIte, c14, nat_of .i64 h18, h20]
     rcases ite_inv H17 with ⟨c22, H23⟩ | ⟨c22, H23⟩
     ·try simp -implicitDefEqProofs only [go_sem, Nat.reduceEqDiff, Nat.reduceAdd, ↓reduceIte, c22]
      obtain rfl := Option.some.inj H23
      obtain rfl := Option.some.inj H2
      exact end_pure (by simp -implicitDefEqProofs only [go_sem, ↓reduceIte, Tryz.f81] <;> rfl) (by rfl) rfl (by intro h; rfl)
     ·try simp -implicitDefEqProofs only [go_sem, Nat.reduceEqDiff, Nat.reduceAdd, reduceCtorEq, ↓reduceIte, c22]
      exact ⟨⟨(c, (IntKind.i64.wrap (t8 + 1))), H23⟩, ren_mk [] (by rfl) (ru_ (ru_ (ru_ (ru_ (rf_no _))))) (rh_no _), Nat.lt_succ_self _⟩
    ·try simp -implicitDefEqProofs only [go_sem, ↓reduceIte, c14]
     obtain rfl := Option.some.inj H15
     exact ⟨⟨(), rfl⟩, ren_mk [] (by rfl) (rf_no _) (rh_no _)⟩
 ·rintro ⟨_, he24⟩
  replace he24 := he24.symm
  subst he24
  try dsimp only at H2
  refine runR_take tab_ok fol 1 ?_
  try simp -implicitDefEqProofs only [go_sem]
  obtain rfl := Option.some.inj H2
  exact end_pure (by simp -implicitDefEqProofs only [go_sem, ↓reduceIte, Tryz.f81] <;> rfl) (by rfl) rfl (by intro h; rfl)
def slices_Contains_string (n : Nat) (s : List ByteArray) (v : ByteArray) : Option Bool :=
 (slices_Index_string n s v).bind fun t7 =>
 some (decide (0 ≤ t7))
theorem slices_Contains_string_ok {n : Nat} {s : List ByteArray} {v : ByteArray} {r : Bool} (H : slices_Contains_string n s v = some r) : PureOK Tryz.prog 54 [D.sl (List.map eS s), D.v (.string v)] (D.v (.bool r)) true := by
 unfold slices_Contains_string at H
 refine pure_runR (tab := tab) tab_ok Tryz.func54 rfl (by kernel_rfl) (by kernel_rfl) (by simp [Tryz.f54]) ?_
 refine runR_take tab_ok fol 1 ?_
 obtain ⟨t7, b1, H2⟩ := bind_inv H
 try simp -implicitDefEqProofs only [go_sem, Nat.reduceEqDiff, Nat.reduceAdd, reduceCtorEq, ↓reduceIte]
 refine onCall_pure (by rfl) (slices_Index_string_ok b1) (by exact .inr rfl) ?_
 try simp -implicitDefEqProofs only [go_sem, Bool.false_and, Nat.reduceAdd, ↓reduceIte]
 obtain rfl := Option.some.inj H2
 exact end_pure (by simp -implicitDefEqProofs only [go_sem, ↓reduceIte, Tryz.f54] <;> rfl) (by rfl) rfl (by intro h; rfl)
def norm_Ring_L1 (n : Nat) (l : List GPair) (t7 : List (ByteArray × (List ByteArray))) : Nat → Int → Option ((Unit) ⊕ Bool)
 | 0, _ => none
 | c + 1, t10 =>
  (if (decide (t10 < (l.length : Int))) then
   (idx l t10).bind fun x2 =>
   (norm_reach n x2.b t7).bind fun t172 =>
   (slices_Contains_string n t172 x2.a).bind fun t202 =>
   (if t202 then
    some (.inr true)
   else
    norm_Ring_L1 n l t7 c (IntKind.i64.wrap (t10 + 1)))
  else
   some (.inl ()))
def norm_Ring_L1_f (n : Nat) (_ : List GPair) (t7 : List (ByteArray × (List ByteArray))) (st : Unit) (x2 : GPair) (k : Unit → Option ((Unit) ⊕ Bool)) : Option ((Unit) ⊕ Bool) :=
 match st with
 | _ =>
  (norm_reach n x2.b t7).bind fun t172 =>
  (slices_Contains_string n t172 x2.a).bind fun t202 =>
  (if t202 then
   some (.inr true)
  else
   k ())
def norm_Ring_L1_e (_ : Nat) (_ : List GPair) (_ : List (ByteArray × (List ByteArray))) (st : Unit) : Option ((Unit) ⊕ Bool) :=
 match st with
 | _ => some (.inl ())
theorem norm_Ring_L1_list (n : Nat) (l : List GPair) (t7 : List (ByteArray × (List ByteArray))) (hx : l.length < 4611686018427387904) (c : Nat) (st : Unit) (ix : Nat) (hi : ix ≤ l.length) (hc : l.length - ix < c) : norm_Ring_L1 n l t7 c (match st, (ix : Int) with | _, ix => ix) = foldK (norm_Ring_L1_f n l t7) (norm_Ring_L1_e n l t7) (l.drop ix) st :=
 loop_list (fun c st ix => norm_Ring_L1 n l t7 c (match st, ix with | _, ix => ix)) l (norm_Ring_L1_f n l t7) (norm_Ring_L1_e n l t7) (fun _ _ _ => rfl) hx c st ix hi hc

def norm_Ring (n : Nat) (l : List GPair) : Option Bool :=
 (norm_below n l).bind fun t7 =>
 (
  norm_Ring_L1 n l t7 n 0 : Option ((Unit) ⊕ Bool)).bind fun
  | .inl _ =>
   some false
  | .inr r => some r
theorem norm_Ring_ok {n : Nat} {l : List GPair} {r : Bool} (H : norm_Ring n l = some r) : PureOK Tryz.prog 52 [D.sl (List.map eGPair l)] (D.v (.bool r)) true := by
 unfold norm_Ring at H
 refine pure_runR (tab := tab) tab_ok Tryz.func52 rfl (by kernel_rfl) (by kernel_rfl) (by simp [Tryz.f52]) ?_
 refine runR_seq ?_
 refine runR_take tab_ok fol 1 ?_
 try simp -implicitDefEqProofs only [go_sem]
 refine runR_seq ?_
 refine runR_take tab_ok fol 1 ?_
 obtain ⟨t7, b1, H2⟩ := bind_inv H
 try simp -implicitDefEqProofs only [go_sem, Nat.reduceAdd, reduceCtorEq, ↓reduceIte]
 refine onCall_pureA (by rfl) (norm_below_ok b1) (by exact .inr rfl) ?_
 try simp -implicitDefEqProofs only [go_sem, Bool.false_and, Nat.reduceAdd, ↓reduceIte]
 refine runR_seq ?_
 refine runR_seq ?_
 refine runR_take tab_ok fol 1 ?_
 try simp -implicitDefEqProofs only [go_sem, Nat.reduceAdd, reduceCtorEq, ↓reduceIte]
 obtain ⟨e_, E3, H4⟩ := bind_inv H2
 refine runR_join (α := { y : Unit // e_ = .inl y }) (fun | ⟨_, _⟩ => ⟨noFr, noHp, 0⟩) ?_ ?_
 ·refine runR_block ?_
  refine runR_loop (α := { q : Nat × Int // norm_Ring_L1 n l t7 q.1 q.2 = some e_ }) (fun | ⟨⟨c, t10⟩, _⟩ => ⟨upd 3 (.d (.mp (encMp Value.string false (eL eS) t7)) false) (upd 8 (.d (.sl (List.map eGPair l)) true) (upd 9 (.v (.int .i64 (l.length : Int))) (upd 10 (.v (.int .i64 t10)) noFr))), noHp, 0⟩) (fun q => q.1.1) ⟨(n, 0), E3⟩ ?_ ?_
  ·exact ren_mk [] (by rfl) (ru_ (ru_ (ru_ (ru_ (rf_no _))))) (rh_no _)
  ·rintro ⟨⟨c, t10⟩, L5⟩
   rcases c with _ | c
   ·exact nomatch (show none = some _ from L5)
   ·unfold norm_Ring_L1 at L5
    try dsimp only at L5
    refine runR_take tab_ok fol 1 ?_
    try simp -implicitDefEqProofs only [go_sem, Nat.reduceEqDiff, ↓reduceIte]
    rcases ite_inv L5 with ⟨c20, H21⟩ | ⟨c20, H21⟩
    ·obtain ⟨x2, b22, H23⟩ := bind_inv H21
     obtain ⟨h24, h25⟩ := idx_inv b22
     try simp only [Int.reduceToNat, Int.toNat_natCast] at h25
     have h26 := map_at eGPair h25
     obtain ⟨t172, b28, H29⟩ := bind_inv H23
     try simp -implicitDefEqProofs only [go_sem, Nat.reduceEqDiff, Nat.reduceAdd, reduceCtorEq, ↓reduceIte, eGPair, c20, nat_of .i64 h24, h26]
     refine onCallD_pure (by rfl) (norm_reach_ok b28) (by exact .inr rfl) ?_
     obtain ⟨t202, b30, H31⟩ := bind_inv H29
     try simp -implicitDefEqProofs only [go_sem, Bool.false_and, Nat.reduceEqDiff, Nat.reduceAdd, reduceCtorEq, ↓reduceIte]
     refine onCallD_pure (by rfl) (slices_Contains_string_ok b30) (by exact .inr rfl) ?_
     try simp -implicitDefEqProofs only [go_sem, Bool.false_and]
     refine Rd_endF (by rfl) ?_
     try simp -implicitDefEqProofs only [go_sem, ↓reduceIte]
     rcases ite_inv H31 with ⟨c32, H33⟩ | ⟨c32, H33⟩
     ·try simp -implicitDefEqProofs only [go_sem, Nat.reduceAdd, c32]
      obtain rfl := Option.some.inj H33
      obtain rfl := Option.some.inj H4
      exact end_pure (by simp -implicitDefEqProofs only [go_sem, ↓reduceIte, Tryz.f52] <;> rfl) (by rfl) rfl (by intro h; rfl)
     ·try simp -implicitDefEqProofs only [go_sem, Nat.reduceEqDiff, Nat.reduceAdd, ↓reduceIte, c32]
      exact ⟨⟨(c, (IntKind.i64.wrap (t10 + 1))), H33⟩, ren_mk [] (by rfl) (ru_ (ru_ (ru_ (ru_ (rf_no _))))) (rh_no _), Nat.lt_succ_self _⟩
    ·try simp -implicitDefEqProofs only [go_sem, ↓reduceIte, c20]
     obtain rfl := Option.some.inj H21
     exact ⟨⟨(), rfl⟩, ren_mk [] (by rfl) (rf_no _) (rh_no _)⟩
 ·rintro ⟨_, he34⟩
  replace he34 := he34.symm
  subst he34
  try dsimp only at H4
  refine runR_take tab_ok fol 1 ?_
  try simp -implicitDefEqProofs only [go_sem]
  obtain rfl := Option.some.inj H4
  exact end_pure (by simp -implicitDefEqProofs only [go_sem, ↓reduceIte, Tryz.f52] <;> rfl) (by rfl) rfl (by intro h; rfl)
def norm_least_c1 (n : Nat) (s : ByteArray) (c2 : GPair) (c3 : List (ByteArray × (List ByteArray))) : Option Bool :=
 (if (s.toList == c2.b.toList) then
  some false
 else
  (norm_reach n s c3).bind fun t12 =>
  (slices_Contains_string n t12 c2.b).bind fun t15 =>
  some t15)
theorem norm_least_c1_ok {n : Nat} {s : ByteArray} {c2 : GPair} {c3 : List (ByteArray × (List ByteArray))} {r : Bool} (H : norm_least_c1 n s c2 c3 = some r) : PureOK Tryz.prog 53 [D.v (.string s), D.pt (eGPair c2) 0, D.pt [D.mp (encMp Value.string false (eL eS) c3)] 0] (D.v (.bool r)) true := by
 unfold norm_least_c1 at H
 refine pure_runR (tab := tab) tab_ok Tryz.func53 rfl (by kernel_rfl) (by kernel_rfl) (by simp [Tryz.f53]) ?_
 refine runR_take tab_ok fol 1 ?_
 try simp -implicitDefEqProofs only [go_sem, Nat.reduceEqDiff, Nat.reduceAdd, reduceCtorEq, ↓reduceIte, eGPair]
 rcases ite_inv H with ⟨c1, H2⟩ | ⟨c1, H2⟩
 ·try simp -implicitDefEqProofs only [go_sem, Nat.reduceEqDiff, Nat.reduceAdd, ↓reduceIte, c1]
  refine Rd_endF (by rfl) ?_
  try simp -implicitDefEqProofs only [go_sem]
  obtain rfl := Option.some.inj H2
  exact end_pure (by simp -implicitDefEqProofs only [go_sem, ↓reduceIte, Tryz.f53] <;> rfl) (by rfl) rfl (by intro h; rfl)
 ·obtain ⟨t12, b3, H4⟩ := bind_inv H2
  try simp -implicitDefEqProofs only [go_sem, Nat.reduceEqDiff, Nat.reduceAdd, reduceCtorEq, ↓reduceIte, c1]
  refine onCallD_pure (by rfl) (norm_reach_ok b3) (by exact .inr rfl) ?_
  obtain ⟨t15, b5, H6⟩ := bind_inv H4
  try simp -implicitDefEqProofs only [go_sem, Bool.false_and, Nat.reduceEqDiff, Nat.reduceAdd, reduceCtorEq, ↓reduceIte]
  refine onCallD_pure (by rfl) (slices_Contains_string_ok b5) (by exact .inr rfl) ?_
  try simp -implicitDefEqProofs only [go_sem, Bool.false_and, Nat.reduceEqDiff, Nat.reduceAdd, ↓reduceIte]
  refine Rd_endF (by rfl) ?_
  try simp -implicitDefEqProofs only [go_sem]
  obtain rfl := Option.some.inj H6
  exact end_pure (by simp -implicitDefEqProofs only [go_sem, ↓reduceIte, Tryz.f53] <;> rfl) (by rfl) rfl (by intro h; rfl)
def slices_IndexFunc_string__norm_least_c1_L1 (n : Nat) (s : List ByteArray) (c2 : GPair) (c3 : List (ByteArray × (List ByteArray))) : Nat → Int → Option ((Unit) ⊕ Int)
 | 0, _ => none
 | c + 1, t8 =>
  (if (decide (t8 < (s.length : Int))) then
   (idx s t8).bind fun x2 =>
   (norm_least_c1 n x2 c2 c3).bind fun t162 =>
   (if t162 then
    some (.inr t8)
   else
    slices_IndexFunc_string__norm_least_c1_L1 n s c2 c3 c (IntKind.i64.wrap (t8 + 1)))
  else
   some (.inl ()))

def slices_IndexFunc_string__norm_least_c1 (n : Nat) (s : List ByteArray) (c2 : GPair) (c3 : List (ByteArray × (List ByteArray))) : Option Int :=
 (
  slices_IndexFunc_string__norm_least_c1_L1 n s c2 c3 n 0 : Option ((Unit) ⊕ Int)).bind fun
  | .inl _ =>
   some (-1)
  | .inr r => some r
theorem slices_IndexFunc_string__norm_least_c1_ok {n : Nat} {s : List ByteArray} {c2 : GPair} {c3 : List (ByteArray × (List ByteArray))} {r : Int} (H : slices_IndexFunc_string__norm_least_c1 n s c2 c3 = some r) : PureA Tryz.prog 82 [.d (D.sl (List.map eS s)), .fn 53 [D.pt (eGPair c2) 0, D.pt [D.mp (encMp Value.string false (eL eS) c3)] 0]] (D.v (.int .i64 r)) true := by
 unfold slices_IndexFunc_string__norm_least_c1 at H
 refine pureA_runR (tab := tab) tab_ok Tryz.func82 rfl (by kernel_rfl) (by kernel_rfl) (by simp [Tryz.f82]) ?_
 refine runR_seq ?_
 refine runR_take tab_ok fol 1 ?_
 try simp -implicitDefEqProofs only [go_sem, eGPair]
 refine runR_seq ?_
 refine runR_seq ?_
 refine runR_take tab_ok fol 1 ?_
 try simp -implicitDefEqProofs only [go_sem, Nat.reduceAdd, reduceCtorEq, ↓reduceIte]
 obtain ⟨e_, E1, H2⟩ := bind_inv H
 refine runR_join (α := { y : Unit // e_ = .inl y }) (fun | ⟨_, _⟩ => ⟨noFr, noHp, 0⟩) ?_ ?_
 ·refine runR_block ?_
  refine runR_loop (α := { q : Nat × Int // slices_IndexFunc_string__norm_least_c1_L1 n s c2 c3 q.1 q.2 = some e_ }) (fun | ⟨⟨c, t8⟩, _⟩ => ⟨upd 0 (.d (.sl (List.map eS s)) true) (upd 1 (.fn 53 [.d (.pt [.v (.string c2.a), .v (.string c2.b)] 0) true, .d (.pt [.mp (encMp Value.string false (eL eS) c3)] 0) true]) (upd 7 (.v (.int .i64 (s.length : Int))) (upd 8 (.v (.int .i64 t8)) noFr))), noHp, 0⟩) (fun q => q.1.1) ⟨(n, 0), E1⟩ ?_ ?_
  ·exact ren_mk [] (by rfl) (ru_ (ru_ (ru_ (ru_ (rf_no _))))) (rh_no _)
  ·rintro ⟨⟨c, t8⟩, L3⟩
   rcases c with _ | c
   ·exact nomatch (show none = some _ from L3)
   ·unfold slices_IndexFunc_string__norm_least_c1_L1 at L3
    try dsimp only at L3
    refine runR_take tab_ok fol 1 ?_
    try simp -implicitDefEqProofs only [go_sem, Nat.reduceEqDiff, reduceCtorEq, ↓reduceIte]
    rcases ite_inv L3 with ⟨c16, H17⟩ | ⟨c16, H17⟩
    ·obtain ⟨x2, b18, H19⟩ := bind_inv H17
     obtain ⟨h20, h21⟩ := idx_inv b18
     try simp only [Int.reduceToNat, Int.toNat_natCast] at h21
     have h22 := map_at eS h21
     obtain ⟨t162, b24, H25⟩ := bind_inv H19
     try simp -implicitDefEqProofs only [go_sem, Nat.reduceEqDiff, Nat.reduceAdd, reduceCtorEq, ↓reduceIte, c16, nat_of .i64 h20, h22]
     refine onCall_pure (by rfl) (norm_least_c1_ok b24) (by exact .inr rfl) ?_
     try simp -implicitDefEqProofs only [go_sem, Bool.false_and, ↓reduceIte]
     rcases ite_inv H25 with ⟨c26, H27⟩ | ⟨c26, H27⟩
     ·try simp -implicitDefEqProofs only [go_sem, Nat.reduceEqDiff, Nat.reduceAdd, ↓reduceIte, c26]
      obtain rfl := Option.some.inj H27
      obtain rfl := Option.some.inj H2
      exact end_pure (by simp -implicitDefEqProofs only [go_sem, ↓reduceIte, Tryz.f82] <;> rfl) (by rfl) rfl (by intro h; rfl)
     ·try simp -implicitDefEqProofs only [go_sem, Nat.reduceEqDiff, Nat.reduceAdd, reduceCtorEq, ↓reduceIte, c26]
      exact ⟨⟨(c, (IntKind.i64.wrap (t8 + 1))), H27⟩, ren_mk [] (by rfl) (ru_ (ru_ (ru_ (ru_ (rf_no _))))) (rh_no _), Nat.lt_succ_self _⟩
    ·try simp -implicitDefEqProofs only [go_sem, ↓reduceIte, c16]
     obtain rfl := Option.some.inj H17
     exact ⟨⟨(), rfl⟩, ren_mk [] (by rfl) (rf_no _) (rh_no _)⟩
 ·rintro ⟨_, he28⟩
  replace he28 := he28.symm
  subst he28
  try dsimp only at H2
  refine runR_take tab_ok fol 1 ?_
  try simp -implicitDefEqProofs only [go_sem]
  obtain rfl := Option.some.inj H2
  exact end_pure (by simp -implicitDefEqProofs only [go_sem, ↓reduceIte, Tryz.f82] <;> rfl) (by rfl) rfl (by intro h; rfl)
def slices_ContainsFunc_string__norm_least_c1 (n : Nat) (s : List ByteArray) (c2 : GPair) (c3 : List (ByteArray × (List ByteArray))) : Option Bool :=
 (slices_IndexFunc_string__norm_least_c1 n s c2 c3).bind fun t7 =>
 some (decide (0 ≤ t7))
theorem slices_ContainsFunc_string__norm_least_c1_ok {n : Nat} {s : List ByteArray} {c2 : GPair} {c3 : List (ByteArray × (List ByteArray))} {r : Bool} (H : slices_ContainsFunc_string__norm_least_c1 n s c2 c3 = some r) : PureA Tryz.prog 55 [.d (D.sl (List.map eS s)), .fn 53 [D.pt (eGPair c2) 0, D.pt [D.mp (encMp Value.string false (eL eS) c3)] 0]] (D.v (.bool r)) true := by
 unfold slices_ContainsFunc_string__norm_least_c1 at H
 refine pureA_runR (tab := tab) tab_ok Tryz.func55 rfl (by kernel_rfl) (by kernel_rfl) (by simp [Tryz.f55]) ?_
 refine runR_take tab_ok fol 1 ?_
 obtain ⟨t7, b1, H2⟩ := bind_inv H
 try simp -implicitDefEqProofs only [go_sem, Nat.reduceEqDiff, Nat.reduceAdd, reduceCtorEq, ↓reduceIte, eGPair]
 refine onCall_pureA (by rfl) (slices_IndexFunc_string__norm_least_c1_ok b1) (by exact .inr rfl) ?_
 try simp -implicitDefEqProofs only [go_sem, Bool.false_and, Nat.reduceAdd, ↓reduceIte]
 obtain rfl := Option.some.inj H2
 exact end_pure (by simp -implicitDefEqProofs only [go_sem, ↓reduceIte, Tryz.f55] <;> rfl) (by rfl) rfl (by intro h; rfl)
end Go.Proofs.YtkkhgdmmbhpckaaGreat.Ab
