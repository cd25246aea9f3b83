/-
 Functions, read off the code.
-/
import Derived.Test.YtkkhgdmmbhpckaaSva
namespace Go.Proofs.Ytkkhgdmmbhpckaa.Ab
open Go.RowKit
def sess_Valid_L1 (n : Nat) (t21 : GRoles) : Nat → (List (ByteArray × Int) × List (ByteArray × Int) × Int) → Option (List (ByteArray × Int) × List (ByteArray × Int))
 | 0, _ => none
 | c + 1, (t502, t512, t28) =>
  (if (decide (t28 < (t21.users.length : Int))) then
   (idx t21.users t28).bind fun x2 =>
   sess_Valid_L1 n t21 c ((mset x2 1 t502), t512, (IntKind.i64.wrap (t28 + 1)))
  else
   some (t502, t512))
def sess_Valid_L1_f (_ : Nat) (_ : GRoles) (st : List (ByteArray × Int) × List (ByteArray × Int)) (x2 : ByteArray) (k : (List (ByteArray × Int) × List (ByteArray × Int)) → Option (List (ByteArray × Int) × List (ByteArray × Int))) : Option (List (ByteArray × Int) × List (ByteArray × Int)) :=
 match st with
 | (t502, t512) =>
  k ((mset x2 1 t502), t512)
def sess_Valid_L1_e (_ : Nat) (_ : GRoles) (st : List (ByteArray × Int) × List (ByteArray × Int)) : Option (List (ByteArray × Int) × List (ByteArray × Int)) :=
 match st with
 | (t502, t512) => some (t502, t512)
theorem sess_Valid_L1_list (n : Nat) (t21 : GRoles) (hx : t21.users.length < 4611686018427387904) (c : Nat) (st : List (ByteArray × Int) × List (ByteArray × Int)) (ix : Nat) (hi : ix ≤ t21.users.length) (hc : t21.users.length - ix < c) : sess_Valid_L1 n t21 c (match st, (ix : Int) with | (t502, t512), ix => (t502, t512, ix)) = foldK (sess_Valid_L1_f n t21) (sess_Valid_L1_e n t21) (t21.users.drop ix) st :=
 loop_list (fun c st ix => sess_Valid_L1 n t21 c (match st, ix with | (t502, t512), ix => (t502, t512, ix))) t21.users (sess_Valid_L1_f n t21) (sess_Valid_L1_e n t21) (fun _ _ _ => rfl) hx c st ix hi hc
def sess_Valid_L2 (n : Nat) (t21 : GRoles) : Nat → (List (ByteArray × Int) × Int) → Option (List (ByteArray × Int))
 | 0, _ => none
 | c + 1, (t515, t39) =>
  (if (decide (t39 < (t21.roles.length : Int))) then
   (idx t21.roles t39).bind fun x4 =>
   sess_Valid_L2 n t21 c ((mset x4 1 t515), (IntKind.i64.wrap (t39 + 1)))
  else
   some t515)
def sess_Valid_L2_f (_ : Nat) (_ : GRoles) (st : List (ByteArray × Int)) (x4 : ByteArray) (k : (List (ByteArray × Int)) → Option (List (ByteArray × Int))) : Option (List (ByteArray × Int)) :=
 match st with
 | t515 =>
  k (mset x4 1 t515)
def sess_Valid_L2_e (_ : Nat) (_ : GRoles) (st : List (ByteArray × Int)) : Option (List (ByteArray × Int)) :=
 match st with
 | t515 => some t515
theorem sess_Valid_L2_list (n : Nat) (t21 : GRoles) (hx : t21.roles.length < 4611686018427387904) (c : Nat) (st : List (ByteArray × Int)) (ix : Nat) (hi : ix ≤ t21.roles.length) (hc : t21.roles.length - ix < c) : sess_Valid_L2 n t21 c (match st, (ix : Int) with | t515, ix => (t515, ix)) = foldK (sess_Valid_L2_f n t21) (sess_Valid_L2_e n t21) (t21.roles.drop ix) st :=
 loop_list (fun c st ix => sess_Valid_L2 n t21 c (match st, ix with | t515, ix => (t515, ix))) t21.roles (sess_Valid_L2_f n t21) (sess_Valid_L2_e n t21) (fun _ _ _ => rfl) hx c st ix hi hc
def sess_Valid_L3 (n : Nat) (t0 : List GFact) (t504 : List (ByteArray × Int)) (t517 : List (ByteArray × Int)) : Nat → Int → Option ((Unit) ⊕ (Int × Int))
 | 0, _ => none
 | c + 1, t49 =>
  (if (decide (t49 < (t0.length : Int))) then
   (idx t0 t49).bind fun x6 =>
   (slc t0 0 t49).bind fun l2 =>
   (sess_told_one n (⟨t504, t517⟩ : SessTold) x6 l2).bind fun t592 =>
   (if (t592 != 0) then
    some (.inr (x6.at_, t592))
   else
    sess_Valid_L3 n t0 t504 t517 c (IntKind.i64.wrap (t49 + 1)))
  else
   some (.inl ()))
def sess_Valid_L4 (n : Nat) (t0 : List GFact) (t21 : GRoles) : Nat → Int → Option ((Unit) ⊕ (Int × Int))
 | 0, _ => none
 | c + 1, t83 =>
  (if (decide (t83 < (t0.length : Int))) then
   (idx t0 t83).bind fun x8 =>
   (if (x8.kind != 8) then
    sess_Valid_L4 n t0 t21 c (IntKind.i64.wrap (t83 + 1))
   else
    (sess_session n x8 t21).bind fun t922 =>
    (if (t922 != 0) then
     some (.inr (x8.at_, t922))
    else
     sess_Valid_L4 n t0 t21 c (IntKind.i64.wrap (t83 + 1))))
  else
   some (.inl ()))
def sess_Valid_L4_f (n : Nat) (_ : List GFact) (t21 : GRoles) (st : Unit) (x8 : GFact) (k : Unit → Option ((Unit) ⊕ (Int × Int))) : Option ((Unit) ⊕ (Int × Int)) :=
 match st with
 | _ =>
  (if (x8.kind != 8) then
   k ()
  else
   (sess_session n x8 t21).bind fun t922 =>
   (if (t922 != 0) then
    some (.inr (x8.at_, t922))
   else
    k ()))
def sess_Valid_L4_e (_ : Nat) (_ : List GFact) (_ : GRoles) (st : Unit) : Option ((Unit) ⊕ (Int × Int)) :=
 match st with
 | _ => some (.inl ())
theorem sess_Valid_L4_list (n : Nat) (t0 : List GFact) (t21 : GRoles) (hx : t0.length < 4611686018427387904) (c : Nat) (st : Unit) (ix : Nat) (hi : ix ≤ t0.length) (hc : t0.length - ix < c) : sess_Valid_L4 n t0 t21 c (match st, (ix : Int) with | _, ix => ix) = foldK (sess_Valid_L4_f n t0 t21) (sess_Valid_L4_e n t0 t21) (t0.drop ix) st :=
 loop_list (fun c st ix => sess_Valid_L4 n t0 t21 c (match st, ix with | _, ix => ix)) t0 (sess_Valid_L4_f n t0 t21) (sess_Valid_L4_e n t0 t21) (fun _ _ _ => rfl) hx c st ix hi hc
def sess_Valid (n : Nat) (t0 : List GFact) : Option (Int × Int) :=
 (norm_Of n t0).bind fun t21 =>
 (
  sess_Valid_L1 n t21 n ([], [], 0) : Option (List (ByteArray × Int) × List (ByteArray × Int))).bind fun (t504, t514) =>
 (
  sess_Valid_L2 n t21 n (t514, 0) : Option (List (ByteArray × Int))).bind fun t517 =>
 (
  sess_Valid_L3 n t0 t504 t517 n 0 : Option ((Unit) ⊕ (Int × Int))).bind fun
  | .inl _ =>
   (sess_loop n t0).bind fun t68 =>
   (if t68.2 then
    some (t68.1, 14)
   else
    (sess_static n t0 t21).bind fun t76 =>
    (if t76.2 then
     some (t76.1, 17)
    else
     (
      sess_Valid_L4 n t0 t21 n 0 : Option ((Unit) ⊕ (Int × Int))).bind fun
      | .inl _ =>
       some (0, 0)
      | .inr r => some r))
  | .inr r => some r
set_option maxHeartbeats 8000000 in
theorem sess_Valid_ok {n : Nat} {t0 : List GFact} {r : Int × Int} (H : sess_Valid n t0 = some r) : PureOK Try.prog 32 [D.sl (List.map eGFact t0)] (D.tu [D.v (.int .i64 r.1), D.v (.int .i64 r.2)]) true := by
 unfold sess_Valid at H
 refine ZP tab_ok fol (rs := #[.tmp 2, .tmp 3]) Try.func32 ?_
 refine zsq (ZT 1 ?_)
 refine Z0 ?_
 refine zsq (ZT 1 ?_)
 obtain ⟨t21, b1, H2⟩ := zbi H
 refine Z0 ?_
 refine ZC0 (norm_Of_ok b1) ?_
 refine Z0 ?_
 refine zsq (ZT 1 ?_)
 refine Z1 (Y2 (fun _ => rfl : ∀ hp : Hp, upd 6 (some (AO.mo [] false)) hp = upd 6 (some (AO.mo (encM Value.string vI ([] : List (ByteArray × Int))) false)) hp) (fun _ => rfl : ∀ hp : Hp, upd 7 (some (AO.mo [] false)) hp = upd 7 (some (AO.mo (encM Value.string vI ([] : List (ByteArray × Int))) false)) hp)) ?_
 refine zsq (zsq ?_)
 refine ZT 1 ?_
 refine Z1 (Y2 (fun _ => rfl : ∀ hp : Hp, upd 6 (some (AO.mo [] false)) hp = upd 6 (some (AO.mo (encM Value.string vI ([] : List (ByteArray × Int))) false)) hp) (fun _ => rfl : ∀ hp : Hp, upd 7 (some (AO.mo [] false)) hp = upd 7 (some (AO.mo (encM Value.string vI ([] : List (ByteArray × Int))) false)) hp)) ?_
 obtain ⟨e_, E3, H4⟩ := zbi H2
 refine zjn (α := { y : List (ByteArray × Int) × List (ByteArray × Int) // e_ = y }) (fun | ⟨⟨t504, t514⟩, _⟩ => ⟨upd 0 (.d (.sl (List.map eGFact t0)) true) (upd 4 (.pt 0 0) (upd 5 (.pt 1 0) noFr)), upd 0 (some (.bx [.d (.sl (List.map eS t21.users)) false, .d (.sl (List.map eS t21.roles)) false, .d (.sl (List.map eGPair t21.inherit)) false, .d (.sl (List.map eGPair t21.assign)) false, .d (.sl (List.map eGGrant t21.grants)) false, .d (.sl (List.map eGSod t21.ssd)) false, .d (.sl (List.map eGSod t21.dsd)) false, .d (.sl (List.map eGSession t21.sessions)) false])) (upd 1 (some (.bx [.mo 2, .mo 3])) (upd 2 (some (.mo (encM Value.string vI t504) false)) (upd 3 (some (.mo (encM Value.string vI t514) false)) noHp))), 4⟩) ?_ ?_
 ·refine zbk ?_
  refine zlp (α := { q : Nat × (List (ByteArray × Int) × List (ByteArray × Int) × Int) // sess_Valid_L1 n t21 q.1 q.2 = some e_ }) (fun | ⟨⟨c, ⟨t502, t512, t28⟩⟩, _⟩ => ⟨upd 0 (.d (.sl (List.map eGFact t0)) true) (upd 4 (.pt 0 0) (upd 5 (.pt 1 0) (upd 26 (.d (.sl (List.map eS t21.users)) false) (upd 27 (.v (.int .i64 (t21.users.length : Int))) (upd 28 (.v (.int .i64 t28)) noFr))))), upd 0 (some (.bx [.d (.sl (List.map eS t21.users)) false, .d (.sl (List.map eS t21.roles)) false, .d (.sl (List.map eGPair t21.inherit)) false, .d (.sl (List.map eGPair t21.assign)) false, .d (.sl (List.map eGGrant t21.grants)) false, .d (.sl (List.map eGSod t21.ssd)) false, .d (.sl (List.map eGSod t21.dsd)) false, .d (.sl (List.map eGSession t21.sessions)) false])) (upd 1 (some (.bx [.mo 2, .mo 3])) (upd 2 (some (.mo (encM Value.string vI t502) false)) (upd 3 (some (.mo (encM Value.string vI t512) false)) noHp))), 4⟩) (fun q => q.1.1) ⟨(n, ([], [], 0)), E3⟩ ?_ ?_
  ·exact ren_mk [(0, 4), (1, 9), (2, 6), (3, 7)] (by rfl) (rf_upd (by rfl) (rf_upd (by rfl) (rf_upd (by rfl) (rf_upd (by rfl) (rf_upd (by rfl) (rf_upd (by rfl) (rf_no _))))))) (rh_upd (rh_one (by rfl) (by rfl) (by rfl)) (rh_upd (rh_one (by rfl) (by rfl) (by rfl)) (rh_upd (rh_one (by rfl) (renO_encM (fun _ => rfl) _ _) (by rfl)) (rh_upd (rh_one (by rfl) (renO_encM (fun _ => rfl) _ _) (by rfl)) (rh_no _)))))
  ·rintro ⟨⟨c, ⟨t502, t512, t28⟩⟩, L5⟩
   rcases c with _ | c
   ·exact Zx L5
   ·unfold sess_Valid_L1 at L5
    try dsimp only at L5
    refine ZT 1 ?_
    refine Z0 ?_
    rcases zit L5 with ⟨c14, H15⟩ | ⟨c14, H15⟩
    ·obtain ⟨x2, b16, H17⟩ := zbi H15
     obtain ⟨h18, h19⟩ := zix b16
     try simp only [Int.reduceToNat, Int.toNat_natCast] at h19
     have h20 := map_at eS h19
     refine Z1 (Y3 c14 (zno .i64 h18) h20) ?_
     exact ⟨⟨(c, ((mset x2 1 t502), t512, (IntKind.i64.wrap (t28 + 1)))), H17⟩, ren_mk [(0, 0), (1, 1), (2, 2), (3, 3)] (by rfl) (rf_upd (by rfl) (rf_upd (by rfl) (rf_upd (by rfl) (rf_upd (by rfl) (rf_upd (by rfl) (rf_upd (by rfl) (rf_no _))))))) (rh_upd (rh_one (by rfl) (by rfl) (by rfl)) (rh_upd (rh_one (by rfl) (by rfl) (by rfl)) (rh_upd (rh_one (by rfl) (renO_encM (fun _ => rfl) _ _) (by rfl)) (rh_upd (rh_one (by rfl) (renO_encM (fun _ => rfl) _ _) (by rfl)) (rh_no _))))), Nat.lt_succ_self _⟩
    ·refine Z1 c14 ?_
     obtain rfl := Zi H15
     exact ⟨⟨(t502, t512), rfl⟩, ren_mk [(0, 0), (1, 1), (2, 2), (3, 3)] (by rfl) (rf_upd (by rfl) (rf_upd (by rfl) (rf_upd (by rfl) (rf_no _)))) (rh_upd (rh_one (by rfl) (by rfl) (by rfl)) (rh_upd (rh_one (by rfl) (by rfl) (by rfl)) (rh_upd (rh_one (by rfl) (renO_encM (fun _ => rfl) _ _) (by rfl)) (rh_upd (rh_one (by rfl) (renO_encM (fun _ => rfl) _ _) (by rfl)) (rh_no _)))))⟩
 ·rintro ⟨⟨t504, t514⟩, he128⟩
  obtain rfl := he128.symm
  try dsimp only at H4
  refine zsq (zsq ?_)
  refine ZT 1 ?_
  refine Z0 ?_
  obtain ⟨e_2, E22, H23⟩ := zbi H4
  refine zjn (α := { y : List (ByteArray × Int) // e_2 = y }) (fun | ⟨t517, _⟩ => ⟨upd 0 (.d (.sl (List.map eGFact t0)) true) (upd 4 (.pt 0 0) (upd 5 (.pt 1 0) noFr)), upd 0 (some (.bx [.d (.sl (List.map eS t21.users)) false, .d (.sl (List.map eS t21.roles)) false, .d (.sl (List.map eGPair t21.inherit)) false, .d (.sl (List.map eGPair t21.assign)) false, .d (.sl (List.map eGGrant t21.grants)) false, .d (.sl (List.map eGSod t21.ssd)) false, .d (.sl (List.map eGSod t21.dsd)) false, .d (.sl (List.map eGSession t21.sessions)) false])) (upd 1 (some (.bx [.mo 2, .mo 3])) (upd 2 (some (.mo (encM Value.string vI t504) false)) (upd 3 (some (.mo (encM Value.string vI t517) false)) noHp))), 4⟩) ?_ ?_
  ·refine zbk ?_
   refine zlp (α := { q : Nat × (List (ByteArray × Int) × Int) // sess_Valid_L2 n t21 q.1 q.2 = some e_2 }) (fun | ⟨⟨c, ⟨t515, t39⟩⟩, _⟩ => ⟨upd 0 (.d (.sl (List.map eGFact t0)) true) (upd 4 (.pt 0 0) (upd 5 (.pt 1 0) (upd 37 (.d (.sl (List.map eS t21.roles)) false) (upd 38 (.v (.int .i64 (t21.roles.length : Int))) (upd 39 (.v (.int .i64 t39)) noFr))))), upd 0 (some (.bx [.d (.sl (List.map eS t21.users)) false, .d (.sl (List.map eS t21.roles)) false, .d (.sl (List.map eGPair t21.inherit)) false, .d (.sl (List.map eGPair t21.assign)) false, .d (.sl (List.map eGGrant t21.grants)) false, .d (.sl (List.map eGSod t21.ssd)) false, .d (.sl (List.map eGSod t21.dsd)) false, .d (.sl (List.map eGSession t21.sessions)) false])) (upd 1 (some (.bx [.mo 2, .mo 3])) (upd 2 (some (.mo (encM Value.string vI t504) false)) (upd 3 (some (.mo (encM Value.string vI t515) false)) noHp))), 4⟩) (fun q => q.1.1) ⟨(n, (t514, 0)), E22⟩ ?_ ?_
   ·exact ren_mk [(0, 0), (1, 1), (2, 2), (3, 3)] (by rfl) (rf_upd (by rfl) (rf_upd (by rfl) (rf_upd (by rfl) (rf_upd (by rfl) (rf_upd (by rfl) (rf_upd (by rfl) (rf_no _))))))) (rh_upd (rh_one (by rfl) (by rfl) (by rfl)) (rh_upd (rh_one (by rfl) (by rfl) (by rfl)) (rh_upd (rh_one (by rfl) (renO_encM (fun _ => rfl) _ _) (by rfl)) (rh_upd (rh_one (by rfl) (renO_encM (fun _ => rfl) _ _) (by rfl)) (rh_no _)))))
   ·rintro ⟨⟨c, ⟨t515, t39⟩⟩, L24⟩
    rcases c with _ | c
    ·exact Zx L24
    ·unfold sess_Valid_L2 at L24
     try dsimp only at L24
     refine ZT 1 ?_
     refine Z0 ?_
     rcases zit L24 with ⟨c33, H34⟩ | ⟨c33, H34⟩
     ·obtain ⟨x4, b35, H36⟩ := zbi H34
      obtain ⟨h37, h38⟩ := zix b35
      try simp only [Int.reduceToNat, Int.toNat_natCast] at h38
      have h39 := map_at eS h38
      refine Z1 (Y3 c33 (zno .i64 h37) h39) ?_
      exact ⟨⟨(c, ((mset x4 1 t515), (IntKind.i64.wrap (t39 + 1)))), H36⟩, ren_mk [(0, 0), (1, 1), (2, 2), (3, 3)] (by rfl) (rf_upd (by rfl) (rf_upd (by rfl) (rf_upd (by rfl) (rf_upd (by rfl) (rf_upd (by rfl) (rf_upd (by rfl) (rf_no _))))))) (rh_upd (rh_one (by rfl) (by rfl) (by rfl)) (rh_upd (rh_one (by rfl) (by rfl) (by rfl)) (rh_upd (rh_one (by rfl) (renO_encM (fun _ => rfl) _ _) (by rfl)) (rh_upd (rh_one (by rfl) (renO_encM (fun _ => rfl) _ _) (by rfl)) (rh_no _))))), Nat.lt_succ_self _⟩
     ·refine Z1 c33 ?_
      obtain rfl := Zi H34
      exact ⟨⟨t515, rfl⟩, ren_mk [(0, 0), (1, 1), (2, 2), (3, 3)] (by rfl) (rf_upd (by rfl) (rf_upd (by rfl) (rf_upd (by rfl) (rf_no _)))) (rh_upd (rh_one (by rfl) (by rfl) (by rfl)) (rh_upd (rh_one (by rfl) (by rfl) (by rfl)) (rh_upd (rh_one (by rfl) (renO_encM (fun _ => rfl) _ _) (by rfl)) (rh_upd (rh_one (by rfl) (renO_encM (fun _ => rfl) _ _) (by rfl)) (rh_no _)))))⟩
  ·rintro ⟨t517, he127⟩
   obtain rfl := he127.symm
   try dsimp only at H23
   refine zsq (zsq ?_)
   refine ZT 1 ?_
   refine Z0 ?_
   obtain ⟨e_3, E41, H42⟩ := zbi H23
   refine zjn (α := { y : Unit // e_3 = .inl y }) (fun | ⟨_, _⟩ => ⟨upd 0 (.d (.sl (List.map eGFact t0)) true) (upd 4 (.pt 0 0) noFr), upd 0 (some (.bx [.d (.sl (List.map eS t21.users)) false, .d (.sl (List.map eS t21.roles)) false, .d (.sl (List.map eGPair t21.inherit)) false, .d (.sl (List.map eGPair t21.assign)) false, .d (.sl (List.map eGGrant t21.grants)) false, .d (.sl (List.map eGSod t21.ssd)) false, .d (.sl (List.map eGSod t21.dsd)) false, .d (.sl (List.map eGSession t21.sessions)) false])) noHp, 1⟩) ?_ ?_
   ·refine zbk ?_
    refine zlp (α := { q : Nat × Int // sess_Valid_L3 n t0 t504 t517 q.1 q.2 = some e_3 }) (fun | ⟨⟨c, t49⟩, _⟩ => ⟨upd 0 (.d (.sl (List.map eGFact t0)) true) (upd 4 (.pt 0 0) (upd 5 (.pt 1 0) (upd 47 (.d (.sl (List.map eGFact t0)) true) (upd 48 (.v (.int .i64 (t0.length : Int))) (upd 49 (.v (.int .i64 t49)) noFr))))), upd 0 (some (.bx [.d (.sl (List.map eS t21.users)) false, .d (.sl (List.map eS t21.roles)) false, .d (.sl (List.map eGPair t21.inherit)) false, .d (.sl (List.map eGPair t21.assign)) false, .d (.sl (List.map eGGrant t21.grants)) false, .d (.sl (List.map eGSod t21.ssd)) false, .d (.sl (List.map eGSod t21.dsd)) false, .d (.sl (List.map eGSession t21.sessions)) false])) (upd 1 (some (.bx [.mo 2, .mo 3])) (upd 2 (some (.mo (encM Value.string vI t504) false)) (upd 3 (some (.mo (encM Value.string vI t517) false)) noHp))), 4⟩) (fun q => q.1.1) ⟨(n, 0), E41⟩ ?_ ?_
    ·exact ren_mk [(0, 0), (1, 1), (2, 2), (3, 3)] (by rfl) (rf_upd (by rfl) (rf_upd (by rfl) (rf_upd (by rfl) (rf_upd (by rfl) (rf_upd (by rfl) (rf_upd (by rfl) (rf_no _))))))) (rh_upd (rh_one (by rfl) (by rfl) (by rfl)) (rh_upd (rh_one (by rfl) (by rfl) (by rfl)) (rh_upd (rh_one (by rfl) (renO_encM (fun _ => rfl) _ _) (by rfl)) (rh_upd (rh_one (by rfl) (renO_encM (fun _ => rfl) _ _) (by rfl)) (rh_no _)))))
    ·rintro ⟨⟨c, t49⟩, L43⟩
     rcases c with _ | c
     ·exact Zx L43
     ·unfold sess_Valid_L3 at L43
      try dsimp only at L43
      refine ZT 1 ?_
      refine Z0 ?_
      rcases zit L43 with ⟨c65, H66⟩ | ⟨c65, H66⟩
      ·obtain ⟨x6, b67, H68⟩ := zbi H66
       obtain ⟨h69, h70⟩ := zix b67
       try simp only [Int.reduceToNat, Int.toNat_natCast] at h70
       have h71 := map_at eGFact h70
       obtain ⟨l2, b73, H74⟩ := zbi H68
       obtain ⟨h75, h76, h77, h78⟩ := slc_inv b73
       have h79 : 0 ≤ Int.toNat t49 := by omega
       have h80 : Int.toNat t49 ≤ (List.length t0) := by omega
       have h81 : List.take (Int.toNat t49) (List.map eGFact t0) = List.map eGFact l2 := by rw [h78]; simp [List.map_take]
       try simp only [Int.toNat_natCast] at h79 h80 h81
       obtain ⟨t592, b82, H83⟩ := zbi H74
       refine Z1 (Y2 (Y6 c65 (zno .i64 h69) h71 (zno .i64 (Int.le_trans h75 h76)) h79 h80) (Y2 h81 (chk_map (n := 7) (f := eGFact) (fun _ => rfl) t0))) ?_
       refine onCallD_pureX (b := true) [2, 3] (fun hp1 h1 => by exact (PW.cons (ToXA.d (ToXV.agP (PW.cons (encM_X ((h1 2 (by simp)).trans (by rfl)) (fun v => ⟨_, rfl, rfl, rfl⟩)) (PW.cons (encM_X ((h1 3 (by simp)).trans (by rfl)) (fun v => ⟨_, rfl, rfl, rfl⟩)) PW.nil)))) (PW.cons (ToXA.d (ToXV.agP (PW.cons (ToX.one (b' := false) (is := []) rfl (fun _ => rfl)) (PW.cons (ToX.one (b' := false) (is := []) rfl (fun _ => rfl)) (PW.cons (ToX.one (b' := false) (is := []) rfl (fun _ => rfl)) (PW.cons (ToX.one (b' := false) (is := []) rfl (fun _ => rfl)) (PW.cons (ToX.one (b' := false) (is := []) rfl (fun _ => rfl)) (PW.cons (ToX.one (b' := true) (is := []) rfl (fun _ => rfl)) (PW.cons (ToX.one (b' := false) (is := []) rfl (fun _ => rfl)) PW.nil))))))))) (PW.cons (ToXA.d (ToXV.one (ToX.one (b' := true) (is := []) rfl (fun _ => rfl)) rfl)) PW.nil)))) (PureA.of_pure (sess_told_one_ok b82)) ?_
       refine Z1 (Y2 (Y6 c65 (zno .i64 h69) h71 (zno .i64 (Int.le_trans h75 h76)) h79 h80) (Y2 h81 (chk_map (n := 7) (f := eGFact) (fun _ => rfl) t0))) ?_
       refine Rd_endF (by rfl) ?_
       refine Z1 (Y2 (Y6 c65 (zno .i64 h69) h71 (zno .i64 (Int.le_trans h75 h76)) h79 h80) (Y2 h81 (chk_map (n := 7) (f := eGFact) (fun _ => rfl) t0))) ?_
       rcases zit H83 with ⟨c84, H85⟩ | ⟨c84, H85⟩
       ·refine Z1 (Y2 (Y6 c65 (zno .i64 h69) h71 (zno .i64 (Int.le_trans h75 h76)) h79 h80) (Y3 h81 (chk_map (n := 7) (f := eGFact) (fun _ => rfl) t0) c84)) ?_
        obtain rfl := Zi H85
        obtain rfl := Zi H42
        exact ZE0
       ·refine Z1 (Y2 (Y6 c65 (zno .i64 h69) h71 (zno .i64 (Int.le_trans h75 h76)) h79 h80) (Y3 h81 (chk_map (n := 7) (f := eGFact) (fun _ => rfl) t0) c84)) ?_
        exact ⟨⟨(c, (IntKind.i64.wrap (t49 + 1))), H85⟩, ren_mk [(0, 0), (1, 1), (2, 2), (3, 3)] (by rfl) (rf_upd (by rfl) (rf_upd (by rfl) (rf_upd (by rfl) (rf_upd (by rfl) (rf_upd (by rfl) (rf_upd (by rfl) (rf_no _))))))) (rh_upd (rh_one (by rfl) (by rfl) (by rfl)) (rh_upd (rh_one (by rfl) (by rfl) (by rfl)) (rh_upd (rh_one (by rfl) (renO_encM (fun _ => rfl) _ _) (by rfl)) (rh_upd (rh_one (by rfl) (renO_encM (fun _ => rfl) _ _) (by rfl)) (rh_no _))))), Nat.lt_succ_self _⟩
      ·refine Z1 c65 ?_
       obtain rfl := Zi H66
       exact ⟨⟨(), rfl⟩, ZR [(0, 0)]⟩
   ·rintro ⟨_, he126⟩
    obtain rfl := he126.symm
    try dsimp only at H42
    refine zsq (ZT 1 ?_)
    obtain ⟨t68, b86, H87⟩ := zbi H42
    refine Z0 ?_
    refine ZC0 (sess_loop_ok b86) ?_
    refine Z0 ?_
    rcases zit H87 with ⟨c88, H89⟩ | ⟨c88, H89⟩
    ·refine Z1 c88 ?_
     obtain rfl := Zi H89
     exact ZE0
    ·refine Z1 c88 ?_
     refine zsq (ZT 1 ?_)
     obtain ⟨t76, b90, H91⟩ := zbi H89
     refine Z1 c88 ?_
     refine ZC0 (sess_static_ok b90) ?_
     refine Z1 c88 ?_
     rcases zit H91 with ⟨c92, H93⟩ | ⟨c92, H93⟩
     ·refine Z1 (Y2 c88 c92) ?_
      obtain rfl := Zi H93
      exact ZE0
     ·refine Z1 (Y2 c88 c92) ?_
      refine zsq (zsq ?_)
      refine ZT 1 ?_
      refine Z1 (Y2 c88 c92) ?_
      obtain ⟨e_4, E94, H95⟩ := zbi H93
      refine zjn (α := { y : Unit // e_4 = .inl y }) (fun | ⟨_, _⟩ => ⟨noFr, noHp, 0⟩) ?_ ?_
      ·refine zbk ?_
       refine zlp (α := { q : Nat × Int // sess_Valid_L4 n t0 t21 q.1 q.2 = some e_4 }) (fun | ⟨⟨c, t83⟩, _⟩ => ⟨upd 4 (.pt 0 0) (upd 81 (.d (.sl (List.map eGFact t0)) true) (upd 82 (.v (.int .i64 (t0.length : Int))) (upd 83 (.v (.int .i64 t83)) noFr))), upd 0 (some (.bx [.d (.sl (List.map eS t21.users)) false, .d (.sl (List.map eS t21.roles)) false, .d (.sl (List.map eGPair t21.inherit)) false, .d (.sl (List.map eGPair t21.assign)) false, .d (.sl (List.map eGGrant t21.grants)) false, .d (.sl (List.map eGSod t21.ssd)) false, .d (.sl (List.map eGSod t21.dsd)) false, .d (.sl (List.map eGSession t21.sessions)) false])) noHp, 1⟩) (fun q => q.1.1) ⟨(n, 0), E94⟩ ?_ ?_
       ·exact ZR [(0, 0)]
       ·rintro ⟨⟨c, t83⟩, L96⟩
        rcases c with _ | c
        ·exact Zx L96
        ·unfold sess_Valid_L4 at L96
         try dsimp only at L96
         refine ZT 1 ?_
         refine Z0 ?_
         rcases zit L96 with ⟨c111, H112⟩ | ⟨c111, H112⟩
         ·obtain ⟨x8, b113, H114⟩ := zbi H112
          obtain ⟨h115, h116⟩ := zix b113
          try simp only [Int.reduceToNat, Int.toNat_natCast] at h116
          have h117 := map_at eGFact h116
          refine Z1 (Y3 c111 (zno .i64 h115) h117) ?_
          rcases zit H114 with ⟨c119, H120⟩ | ⟨c119, H120⟩
          ·refine Z1 (Y4 c111 (zno .i64 h115) h117 c119) ?_
           exact ⟨⟨(c, (IntKind.i64.wrap (t83 + 1))), H120⟩, ZR [(0, 0)], Nat.lt_succ_self _⟩
          ·obtain ⟨t922, b121, H122⟩ := zbi H120
           refine Z1 (Y4 c111 (zno .i64 h115) h117 c119) ?_
           refine ZC0 (sess_session_ok b121) ?_
           refine Z1 (Y4 c111 (zno .i64 h115) h117 c119) ?_
           rcases zit H122 with ⟨c123, H124⟩ | ⟨c123, H124⟩
           ·refine Z1 (Y5 c111 (zno .i64 h115) h117 c119 c123) ?_
            obtain rfl := Zi H124
            obtain rfl := Zi H95
            exact ZE0
           ·refine Z1 (Y5 c111 (zno .i64 h115) h117 c119 c123) ?_
            exact ⟨⟨(c, (IntKind.i64.wrap (t83 + 1))), H124⟩, ZR [(0, 0)], Nat.lt_succ_self _⟩
         ·refine Z1 c111 ?_
          obtain rfl := Zi H112
          exact ⟨⟨(), rfl⟩, ZR []⟩
      ·rintro ⟨_, he125⟩
       obtain rfl := he125.symm
       try dsimp only at H95
       refine ZT 1 ?_
       refine Z0 ?_
       obtain rfl := Zi H95
       exact ZE0
def ref13_Of_L1 (n : Nat) (t0 : List GFact) : Nat → (List ByteArray × List ByteArray × List GPair × List GPair × List GGrant × List GSod × List GSod × List GSession × Int) → Option (List ByteArray × List ByteArray × List GPair × List GPair × List GGrant × List GSod × List GSod × List GSession)
 | 0, _ => none
 | c + 1, (t30, t31, t32, t33, t34, t35, t36, t37, t4) =>
  (if (decide (t4 < (t0.length : Int))) then
   (idx t0 t4).bind fun x2 =>
   (if (x2.kind == 1) then
    (app t30 [x2.a]).bind fun l4 =>
    ref13_Of_L1 n t0 c (l4, t31, t32, t33, t34, t35, t36, t37, (IntKind.i64.wrap (t4 + 1)))
   else
    (if (x2.kind == 2) then
     (app t31 [x2.a]).bind fun l5 =>
     ref13_Of_L1 n t0 c (t30, l5, t32, t33, t34, t35, t36, t37, (IntKind.i64.wrap (t4 + 1)))
    else
     (if (x2.kind == 3) then
      (app t32 [(⟨x2.a, x2.b⟩ : GPair)]).bind fun l6 =>
      ref13_Of_L1 n t0 c (t30, t31, l6, t33, t34, t35, t36, t37, (IntKind.i64.wrap (t4 + 1)))
     else
      (if (x2.kind == 4) then
       (app t33 [(⟨x2.a, x2.b⟩ : GPair)]).bind fun l7 =>
       ref13_Of_L1 n t0 c (t30, t31, t32, l7, t34, t35, t36, t37, (IntKind.i64.wrap (t4 + 1)))
      else
       (if (x2.kind == 5) then
        (app t34 [(⟨x2.a, x2.b, x2.c⟩ : GGrant)]).bind fun l8 =>
        ref13_Of_L1 n t0 c (t30, t31, t32, t33, l8, t35, t36, t37, (IntKind.i64.wrap (t4 + 1)))
       else
        (if (x2.kind == 6) then
         (app [] x2.l).bind fun _ =>
         (app t35 [(⟨x2.a, x2.n_, x2.l⟩ : GSod)]).bind fun l10 =>
         ref13_Of_L1 n t0 c (t30, t31, t32, t33, t34, l10, t36, t37, (IntKind.i64.wrap (t4 + 1)))
        else
         (if (x2.kind == 7) then
          (app [] x2.l).bind fun _ =>
          (app t36 [(⟨x2.a, x2.n_, x2.l⟩ : GSod)]).bind fun l12 =>
          ref13_Of_L1 n t0 c (t30, t31, t32, t33, t34, t35, l12, t37, (IntKind.i64.wrap (t4 + 1)))
         else
          (if (x2.kind == 8) then
           (app [] x2.l).bind fun _ =>
           (app t37 [(⟨x2.a, x2.b, x2.l⟩ : GSession)]).bind fun l14 =>
           ref13_Of_L1 n t0 c (t30, t31, t32, t33, t34, t35, t36, l14, (IntKind.i64.wrap (t4 + 1)))
          else
           ref13_Of_L1 n t0 c (t30, t31, t32, t33, t34, t35, t36, t37, (IntKind.i64.wrap (t4 + 1)))))))))))
  else
   some (t30, t31, t32, t33, t34, t35, t36, t37))
def ref13_Of_L1_f (_ : Nat) (_ : List GFact) (st : List ByteArray × List ByteArray × List GPair × List GPair × List GGrant × List GSod × List GSod × List GSession) (x2 : GFact) (k : (List ByteArray × List ByteArray × List GPair × List GPair × List GGrant × List GSod × List GSod × List GSession) → Option (List ByteArray × List ByteArray × List GPair × List GPair × List GGrant × List GSod × List GSod × List GSession)) : Option (List ByteArray × List ByteArray × List GPair × List GPair × List GGrant × List GSod × List GSod × List GSession) :=
 match st with
 | (t30, t31, t32, t33, t34, t35, t36, t37) =>
  (if (x2.kind == 1) then
   (app t30 [x2.a]).bind fun l4 =>
   k (l4, t31, t32, t33, t34, t35, t36, t37)
  else
   (if (x2.kind == 2) then
    (app t31 [x2.a]).bind fun l5 =>
    k (t30, l5, t32, t33, t34, t35, t36, t37)
   else
    (if (x2.kind == 3) then
     (app t32 [(⟨x2.a, x2.b⟩ : GPair)]).bind fun l6 =>
     k (t30, t31, l6, t33, t34, t35, t36, t37)
    else
     (if (x2.kind == 4) then
      (app t33 [(⟨x2.a, x2.b⟩ : GPair)]).bind fun l7 =>
      k (t30, t31, t32, l7, t34, t35, t36, t37)
     else
      (if (x2.kind == 5) then
       (app t34 [(⟨x2.a, x2.b, x2.c⟩ : GGrant)]).bind fun l8 =>
       k (t30, t31, t32, t33, l8, t35, t36, t37)
      else
       (if (x2.kind == 6) then
        (app [] x2.l).bind fun _ =>
        (app t35 [(⟨x2.a, x2.n_, x2.l⟩ : GSod)]).bind fun l10 =>
        k (t30, t31, t32, t33, t34, l10, t36, t37)
       else
        (if (x2.kind == 7) then
         (app [] x2.l).bind fun _ =>
         (app t36 [(⟨x2.a, x2.n_, x2.l⟩ : GSod)]).bind fun l12 =>
         k (t30, t31, t32, t33, t34, t35, l12, t37)
        else
         (if (x2.kind == 8) then
          (app [] x2.l).bind fun _ =>
          (app t37 [(⟨x2.a, x2.b, x2.l⟩ : GSession)]).bind fun l14 =>
          k (t30, t31, t32, t33, t34, t35, t36, l14)
         else
          k (t30, t31, t32, t33, t34, t35, t36, t37)))))))))
def ref13_Of_L1_e (_ : Nat) (_ : List GFact) (st : List ByteArray × List ByteArray × List GPair × List GPair × List GGrant × List GSod × List GSod × List GSession) : Option (List ByteArray × List ByteArray × List GPair × List GPair × List GGrant × List GSod × List GSod × List GSession) :=
 match st with
 | (t30, t31, t32, t33, t34, t35, t36, t37) => some (t30, t31, t32, t33, t34, t35, t36, t37)
theorem ref13_Of_L1_list (n : Nat) (t0 : List GFact) (hx : t0.length < 4611686018427387904) (c : Nat) (st : List ByteArray × List ByteArray × List GPair × List GPair × List GGrant × List GSod × List GSod × List GSession) (ix : Nat) (hi : ix ≤ t0.length) (hc : t0.length - ix < c) : ref13_Of_L1 n t0 c (match st, (ix : Int) with | (t30, t31, t32, t33, t34, t35, t36, t37), ix => (t30, t31, t32, t33, t34, t35, t36, t37, ix)) = foldK (ref13_Of_L1_f n t0) (ref13_Of_L1_e n t0) (t0.drop ix) st :=
 loop_list (fun c st ix => ref13_Of_L1 n t0 c (match st, ix with | (t30, t31, t32, t33, t34, t35, t36, t37), ix => (t30, t31, t32, t33, t34, t35, t36, t37, ix))) t0 (ref13_Of_L1_f n t0) (ref13_Of_L1_e n t0) (fun _ _ _ => rfl) hx c st ix hi hc
def ref13_Of (n : Nat) (t0 : List GFact) : Option GRoles :=
 (
  ref13_Of_L1 n t0 n ([], [], [], [], [], [], [], [], 0) : Option (List ByteArray × List ByteArray × List GPair × List GPair × List GGrant × List GSod × List GSod × List GSession)).bind fun (t303, t313, t323, t333, t343, t353, t363, t373) =>
 some (⟨t303, t313, t323, t333, t343, t353, t363, t373⟩ : GRoles)
set_option maxHeartbeats 8000000 in
theorem ref13_Of_ok {n : Nat} {t0 : List GFact} {r : GRoles} (H : ref13_Of n t0 = some r) : PureOK Try.prog 33 [D.sl (List.map eGFact t0)] (D.ag (eGRoles r)) true := by
 unfold ref13_Of at H
 refine ZP tab_ok fol (rs := #[.cell 2 58]) Try.func33 ?_
 refine zsq (ZT 1 ?_)
 refine Z0 ?_
 refine zsq (ZT 1 ?_)
 refine Z0 ?_
 refine zsq (zsq ?_)
 refine ZT 1 ?_
 refine Z0 ?_
 obtain ⟨e_, E1, H2⟩ := zbi H
 refine zjn (α := { y : List ByteArray × List ByteArray × List GPair × List GPair × List GGrant × List GSod × List GSod × List GSession // e_ = y } × Nat × Nat × Nat × Nat × Nat × Nat × Nat × Nat) (fun | ⟨⟨⟨t303, t313, t323, t333, t343, t353, t363, t373⟩, _⟩, ⟨g17, g18, g19, g20, g21, g22, g23, g24⟩⟩ => ⟨upd 2 (.pt 0 0) (upd 3 (.pt 1 0) noFr), upd 0 (some (.bx [.v (.slice none 0 0), .v (.slice none 0 0), .v (.slice none 0 0), .v (.slice none 0 0), .v (.slice none 0 0), .v (.slice none 0 0), .v (.slice none 0 0), .v (.slice none 0 0)])) (upd 1 (some (.bx [accV 2 g17 (List.map eS t303), accV 3 g18 (List.map eS t313), accV 4 g19 (List.map eGPair t323), accV 5 g20 (List.map eGPair t333), accV 6 g21 (List.map eGGrant t343), accV 7 g22 (List.map eGSod t353), accV 8 g23 (List.map eGSod t363), accV 9 g24 (List.map eGSession t373)])) (upd 2 (accO 1 g17 false (List.map eS t303)) (upd 3 (accO 1 g18 false (List.map eS t313)) (upd 4 (accO 2 g19 false (List.map eGPair t323)) (upd 5 (accO 2 g20 false (List.map eGPair t333)) (upd 6 (accO 3 g21 false (List.map eGGrant t343)) (upd 7 (accO 3 g22 false (List.map eGSod t353)) (upd 8 (accO 3 g23 false (List.map eGSod t363)) (upd 9 (accO 3 g24 false (List.map eGSession t373)) noHp))))))))), 10⟩) ?_ ?_
 ·refine zbk ?_
  refine zlp (α := { q : (Nat × (List ByteArray × List ByteArray × List GPair × List GPair × List GGrant × List GSod × List GSod × List GSession × Int)) × Nat × Nat × Nat × Nat × Nat × Nat × Nat × Nat // ref13_Of_L1 n t0 q.1.1 q.1.2 = some e_ }) (fun | ⟨⟨⟨c, ⟨t30, t31, t32, t33, t34, t35, t36, t37, t4⟩⟩, ⟨g, g2, g3, g4, g5, g6, g7, g8⟩⟩, _⟩ => ⟨upd 0 (.d (.sl (List.map eGFact t0)) true) (upd 2 (.pt 0 0) (upd 3 (.pt 1 0) (upd 4 (.v (.int .i64 t4)) noFr))), upd 0 (some (.bx [.v (.slice none 0 0), .v (.slice none 0 0), .v (.slice none 0 0), .v (.slice none 0 0), .v (.slice none 0 0), .v (.slice none 0 0), .v (.slice none 0 0), .v (.slice none 0 0)])) (upd 1 (some (.bx [accV 2 g (List.map eS t30), accV 3 g2 (List.map eS t31), accV 4 g3 (List.map eGPair t32), accV 5 g4 (List.map eGPair t33), accV 6 g5 (List.map eGGrant t34), accV 7 g6 (List.map eGSod t35), accV 8 g7 (List.map eGSod t36), accV 9 g8 (List.map eGSession t37)])) (upd 2 (accO 1 g false (List.map eS t30)) (upd 3 (accO 1 g2 false (List.map eS t31)) (upd 4 (accO 2 g3 false (List.map eGPair t32)) (upd 5 (accO 2 g4 false (List.map eGPair t33)) (upd 6 (accO 3 g5 false (List.map eGGrant t34)) (upd 7 (accO 3 g6 false (List.map eGSod t35)) (upd 8 (accO 3 g7 false (List.map eGSod t36)) (upd 9 (accO 3 g8 false (List.map eGSession t37)) noHp))))))))), 10⟩) (fun q => q.1.1.1) ⟨((n, ([], [], [], [], [], [], [], [], 0)), (0, 0, 0, 0, 0, 0, 0, 0)), E1⟩ ?_ ?_
  ·exact ren_mk [(0, 0), (1, 2)] (by rfl) (rf_upd (by rfl) (rf_upd (by rfl) (rf_upd (by rfl) (rf_upd (by rfl) (rf_no _))))) (rh_upd (rh_one (by rfl) (by rfl) (by rfl)) (rh_upd (rh_one (by rfl) (renO_bx (renL_cons (by rfl) (renL_cons (by rfl) (renL_cons (by rfl) (renL_cons (by rfl) (renL_cons (by rfl) (renL_cons (by rfl) (renL_cons (by rfl) (renL_cons (by rfl) (renL_nil _)))))))))) (by rfl)) (rh_upd rh_accN (rh_upd rh_accN (rh_upd rh_accN (rh_upd rh_accN (rh_upd rh_accN (rh_upd rh_accN (rh_upd rh_accN (rh_upd rh_accN (rh_no _)))))))))))
  ·rintro ⟨⟨⟨c, ⟨t30, t31, t32, t33, t34, t35, t36, t37, t4⟩⟩, ⟨g, g2, g3, g4, g5, g6, g7, g8⟩⟩, L3⟩
   rcases c with _ | c
   ·exact Zx L3
   ·unfold ref13_Of_L1 at L3
    try dsimp only at L3
    refine ZT 1 ?_
    refine Z0 ?_
    rcases zit L3 with ⟨c46, H47⟩ | ⟨c46, H47⟩
    ·obtain ⟨x2, b48, H49⟩ := zbi H47
     obtain ⟨h50, h51⟩ := zix b48
     try simp only [Int.reduceToNat, Int.toNat_natCast] at h51
     have h52 := map_at eGFact h51
     refine Z1 (Y3 c46 (zno .i64 h50) h52) ?_
     rcases zit H49 with ⟨c54, H55⟩ | ⟨c54, H55⟩
     ·obtain ⟨l4, b56, H57⟩ := zbi H55
      obtain ⟨h58, h59⟩ := app_inv b56
      have h58 : t30.length + 1 ≤ 4294967296 := h58
      have h60 : List.map eS t30 ++ [[.v (.string x2.a)]] = List.map eS l4 := app_map eS h59
      have h61 : t30.length + 1 = l4.length := app_len h59
      have h62 : l4.length ≤ 4294967296 := by omega
      have q63 : 0 < l4.length := by omega
      refine Z1 (Y2 (Y6 c46 (zno .i64 h50) h52 c54 h58 h60) (Y2 h61 h62)) ?_
      rcases t30 with _ | ⟨q0, q1⟩
      ·try simp only [List.map_nil, accI, accN]
       exact ⟨⟨((c, (l4, t31, t32, t33, t34, t35, t36, t37, (IntKind.i64.wrap (t4 + 1)))), (0, g2, g3, g4, g5, g6, g7, g8)), H57⟩, ren_mk [(0, 0), (1, 1), (2, 29), (3, 3), (4, 4), (5, 5), (6, 6), (7, 7), (8, 8), (9, 9)] (by rfl) (rf_upd (by rfl) (rf_upd (by rfl) (rf_upd (by rfl) (rf_upd (by rfl) (rf_no _))))) (rh_upd (rh_one (by rfl) (by rfl) (by rfl)) (rh_upd (rh_one (by rfl) (renO_bx (renL_cons (by first | exact ren_accP (by rfl) q63 | rfl) (renL_cons (ren_acc (by rfl)) (renL_cons (ren_acc (by rfl)) (renL_cons (ren_acc (by rfl)) (renL_cons (ren_acc (by rfl)) (renL_cons (ren_acc (by rfl)) (renL_cons (ren_acc (by rfl)) (renL_cons (ren_acc (by rfl)) (renL_nil _)))))))))) (by rfl)) (rh_upd (by first | exact rh_accP (by rfl) q63 (by rfl) | exact rh_one (by rfl) (by rfl) (by rfl)) (rh_upd (rh_acc (by rfl) (by rfl)) (rh_upd (rh_acc (by rfl) (by rfl)) (rh_upd (rh_acc (by rfl) (by rfl)) (rh_upd (rh_acc (by rfl) (by rfl)) (rh_upd (rh_acc (by rfl) (by rfl)) (rh_upd (rh_acc (by rfl) (by rfl)) (rh_upd (rh_acc (by rfl) (by rfl)) (rh_no _))))))))))), Nat.lt_succ_self _⟩
      ·try simp only [List.map_cons, accI, accN]
       exact ⟨⟨((c, (l4, t31, t32, t33, t34, t35, t36, t37, (IntKind.i64.wrap (t4 + 1)))), ((g + 1), g2, g3, g4, g5, g6, g7, g8)), H57⟩, ren_mk [(0, 0), (1, 1), (2, 2), (3, 3), (4, 4), (5, 5), (6, 6), (7, 7), (8, 8), (9, 9)] (by rfl) (rf_upd (by rfl) (rf_upd (by rfl) (rf_upd (by rfl) (rf_upd (by rfl) (rf_no _))))) (rh_upd (rh_one (by rfl) (by rfl) (by rfl)) (rh_upd (rh_one (by rfl) (renO_bx (renL_cons (by first | exact ren_accP (by rfl) q63 | rfl) (renL_cons (ren_acc (by rfl)) (renL_cons (ren_acc (by rfl)) (renL_cons (ren_acc (by rfl)) (renL_cons (ren_acc (by rfl)) (renL_cons (ren_acc (by rfl)) (renL_cons (ren_acc (by rfl)) (renL_cons (ren_acc (by rfl)) (renL_nil _)))))))))) (by rfl)) (rh_upd (by first | exact rh_accP (by rfl) q63 (by rfl) | exact rh_one (by rfl) (by rfl) (by rfl)) (rh_upd (rh_acc (by rfl) (by rfl)) (rh_upd (rh_acc (by rfl) (by rfl)) (rh_upd (rh_acc (by rfl) (by rfl)) (rh_upd (rh_acc (by rfl) (by rfl)) (rh_upd (rh_acc (by rfl) (by rfl)) (rh_upd (rh_acc (by rfl) (by rfl)) (rh_upd (rh_acc (by rfl) (by rfl)) (rh_no _))))))))))), Nat.lt_succ_self _⟩
     ·refine Z1 (Y4 c46 (zno .i64 h50) h52 c54) ?_
      rcases zit H55 with ⟨c64, H65⟩ | ⟨c64, H65⟩
      ·obtain ⟨l5, b66, H67⟩ := zbi H65
       obtain ⟨h68, h69⟩ := app_inv b66
       have h68 : t31.length + 1 ≤ 4294967296 := h68
       have h70 : List.map eS t31 ++ [[.v (.string x2.a)]] = List.map eS l5 := app_map eS h69
       have h71 : t31.length + 1 = l5.length := app_len h69
       have h72 : l5.length ≤ 4294967296 := by omega
       have q73 : 0 < l5.length := by omega
       refine Z1 (Y2 (Y6 c46 (zno .i64 h50) h52 c54 c64 h68) (Y3 h70 h71 h72)) ?_
       rcases t31 with _ | ⟨q0, q1⟩
       ·try simp only [List.map_nil, accI, accN]
        exact ⟨⟨((c, (t30, l5, t32, t33, t34, t35, t36, t37, (IntKind.i64.wrap (t4 + 1)))), (g, 0, g3, g4, g5, g6, g7, g8)), H67⟩, ren_mk [(0, 0), (1, 1), (2, 2), (3, 31), (4, 4), (5, 5), (6, 6), (7, 7), (8, 8), (9, 9)] (by rfl) (rf_upd (by rfl) (rf_upd (by rfl) (rf_upd (by rfl) (rf_upd (by rfl) (rf_no _))))) (rh_upd (rh_one (by rfl) (by rfl) (by rfl)) (rh_upd (rh_one (by rfl) (renO_bx (renL_cons (ren_acc (by rfl)) (renL_cons (by first | exact ren_accP (by rfl) q73 | rfl) (renL_cons (ren_acc (by rfl)) (renL_cons (ren_acc (by rfl)) (renL_cons (ren_acc (by rfl)) (renL_cons (ren_acc (by rfl)) (renL_cons (ren_acc (by rfl)) (renL_cons (ren_acc (by rfl)) (renL_nil _)))))))))) (by rfl)) (rh_upd (rh_acc (by rfl) (by rfl)) (rh_upd (by first | exact rh_accP (by rfl) q73 (by rfl) | exact rh_one (by rfl) (by rfl) (by rfl)) (rh_upd (rh_acc (by rfl) (by rfl)) (rh_upd (rh_acc (by rfl) (by rfl)) (rh_upd (rh_acc (by rfl) (by rfl)) (rh_upd (rh_acc (by rfl) (by rfl)) (rh_upd (rh_acc (by rfl) (by rfl)) (rh_upd (rh_acc (by rfl) (by rfl)) (rh_no _))))))))))), Nat.lt_succ_self _⟩
       ·try simp only [List.map_cons, accI, accN]
        exact ⟨⟨((c, (t30, l5, t32, t33, t34, t35, t36, t37, (IntKind.i64.wrap (t4 + 1)))), (g, (g2 + 1), g3, g4, g5, g6, g7, g8)), H67⟩, ren_mk [(0, 0), (1, 1), (2, 2), (3, 3), (4, 4), (5, 5), (6, 6), (7, 7), (8, 8), (9, 9)] (by rfl) (rf_upd (by rfl) (rf_upd (by rfl) (rf_upd (by rfl) (rf_upd (by rfl) (rf_no _))))) (rh_upd (rh_one (by rfl) (by rfl) (by rfl)) (rh_upd (rh_one (by rfl) (renO_bx (renL_cons (ren_acc (by rfl)) (renL_cons (by first | exact ren_accP (by rfl) q73 | rfl) (renL_cons (ren_acc (by rfl)) (renL_cons (ren_acc (by rfl)) (renL_cons (ren_acc (by rfl)) (renL_cons (ren_acc (by rfl)) (renL_cons (ren_acc (by rfl)) (renL_cons (ren_acc (by rfl)) (renL_nil _)))))))))) (by rfl)) (rh_upd (rh_acc (by rfl) (by rfl)) (rh_upd (by first | exact rh_accP (by rfl) q73 (by rfl) | exact rh_one (by rfl) (by rfl) (by rfl)) (rh_upd (rh_acc (by rfl) (by rfl)) (rh_upd (rh_acc (by rfl) (by rfl)) (rh_upd (rh_acc (by rfl) (by rfl)) (rh_upd (rh_acc (by rfl) (by rfl)) (rh_upd (rh_acc (by rfl) (by rfl)) (rh_upd (rh_acc (by rfl) (by rfl)) (rh_no _))))))))))), Nat.lt_succ_self _⟩
      ·refine Z1 (Y5 c46 (zno .i64 h50) h52 c54 c64) ?_
       rcases zit H65 with ⟨c74, H75⟩ | ⟨c74, H75⟩
       ·obtain ⟨l6, b76, H77⟩ := zbi H75
        obtain ⟨h78, h79⟩ := app_inv b76
        have h78 : t32.length + 1 ≤ 4294967296 := h78
        have h80 : List.map eGPair t32 ++ [[.v (.string x2.a), .v (.string x2.b)]] = List.map eGPair l6 := app_map eGPair h79
        have h81 : t32.length + 1 = l6.length := app_len h79
        have h82 : l6.length ≤ 4294967296 := by omega
        have q83 : 0 < l6.length := by omega
        refine Z1 (Y2 (Y6 c46 (zno .i64 h50) h52 c54 c64 c74) (Y4 h78 h80 h81 h82)) ?_
        rcases t32 with _ | ⟨q0, q1⟩
        ·try simp only [List.map_nil, accI, accN]
         exact ⟨⟨((c, (t30, t31, l6, t33, t34, t35, t36, t37, (IntKind.i64.wrap (t4 + 1)))), (g, g2, 0, g4, g5, g6, g7, g8)), H77⟩, ren_mk [(0, 0), (1, 1), (2, 2), (3, 3), (4, 36), (5, 5), (6, 6), (7, 7), (8, 8), (9, 9)] (by rfl) (rf_upd (by rfl) (rf_upd (by rfl) (rf_upd (by rfl) (rf_upd (by rfl) (rf_no _))))) (rh_upd (rh_one (by rfl) (by rfl) (by rfl)) (rh_upd (rh_one (by rfl) (renO_bx (renL_cons (ren_acc (by rfl)) (renL_cons (ren_acc (by rfl)) (renL_cons (by first | exact ren_accP (by rfl) q83 | rfl) (renL_cons (ren_acc (by rfl)) (renL_cons (ren_acc (by rfl)) (renL_cons (ren_acc (by rfl)) (renL_cons (ren_acc (by rfl)) (renL_cons (ren_acc (by rfl)) (renL_nil _)))))))))) (by rfl)) (rh_upd (rh_acc (by rfl) (by rfl)) (rh_upd (rh_acc (by rfl) (by rfl)) (rh_upd (by first | exact rh_accP (by rfl) q83 (by rfl) | exact rh_one (by rfl) (by rfl) (by rfl)) (rh_upd (rh_acc (by rfl) (by rfl)) (rh_upd (rh_acc (by rfl) (by rfl)) (rh_upd (rh_acc (by rfl) (by rfl)) (rh_upd (rh_acc (by rfl) (by rfl)) (rh_upd (rh_acc (by rfl) (by rfl)) (rh_no _))))))))))), Nat.lt_succ_self _⟩
        ·try simp only [List.map_cons, accI, accN]
         exact ⟨⟨((c, (t30, t31, l6, t33, t34, t35, t36, t37, (IntKind.i64.wrap (t4 + 1)))), (g, g2, (g3 + 1), g4, g5, g6, g7, g8)), H77⟩, ren_mk [(0, 0), (1, 1), (2, 2), (3, 3), (4, 4), (5, 5), (6, 6), (7, 7), (8, 8), (9, 9)] (by rfl) (rf_upd (by rfl) (rf_upd (by rfl) (rf_upd (by rfl) (rf_upd (by rfl) (rf_no _))))) (rh_upd (rh_one (by rfl) (by rfl) (by rfl)) (rh_upd (rh_one (by rfl) (renO_bx (renL_cons (ren_acc (by rfl)) (renL_cons (ren_acc (by rfl)) (renL_cons (by first | exact ren_accP (by rfl) q83 | rfl) (renL_cons (ren_acc (by rfl)) (renL_cons (ren_acc (by rfl)) (renL_cons (ren_acc (by rfl)) (renL_cons (ren_acc (by rfl)) (renL_cons (ren_acc (by rfl)) (renL_nil _)))))))))) (by rfl)) (rh_upd (rh_acc (by rfl) (by rfl)) (rh_upd (rh_acc (by rfl) (by rfl)) (rh_upd (by first | exact rh_accP (by rfl) q83 (by rfl) | exact rh_one (by rfl) (by rfl) (by rfl)) (rh_upd (rh_acc (by rfl) (by rfl)) (rh_upd (rh_acc (by rfl) (by rfl)) (rh_upd (rh_acc (by rfl) (by rfl)) (rh_upd (rh_acc (by rfl) (by rfl)) (rh_upd (rh_acc (by rfl) (by rfl)) (rh_no _))))))))))), Nat.lt_succ_self _⟩
       ·refine Z1 (Y6 c46 (zno .i64 h50) h52 c54 c64 c74) ?_
        rcases zit H75 with ⟨c84, H85⟩ | ⟨c84, H85⟩
        ·obtain ⟨l7, b86, H87⟩ := zbi H85
         obtain ⟨h88, h89⟩ := app_inv b86
         have h88 : t33.length + 1 ≤ 4294967296 := h88
         have h90 : List.map eGPair t33 ++ [[.v (.string x2.a), .v (.string x2.b)]] = List.map eGPair l7 := app_map eGPair h89
         have h91 : t33.length + 1 = l7.length := app_len h89
         have h92 : l7.length ≤ 4294967296 := by omega
         have q93 : 0 < l7.length := by omega
         refine Z1 (Y2 (Y6 c46 (zno .i64 h50) h52 c54 c64 c74) (Y5 c84 h88 h90 h91 h92)) ?_
         rcases t33 with _ | ⟨q0, q1⟩
         ·try simp only [List.map_nil, accI, accN]
          exact ⟨⟨((c, (t30, t31, t32, l7, t34, t35, t36, t37, (IntKind.i64.wrap (t4 + 1)))), (g, g2, g3, 0, g5, g6, g7, g8)), H87⟩, ren_mk [(0, 0), (1, 1), (2, 2), (3, 3), (4, 4), (5, 38), (6, 6), (7, 7), (8, 8), (9, 9)] (by rfl) (rf_upd (by rfl) (rf_upd (by rfl) (rf_upd (by rfl) (rf_upd (by rfl) (rf_no _))))) (rh_upd (rh_one (by rfl) (by rfl) (by rfl)) (rh_upd (rh_one (by rfl) (renO_bx (renL_cons (ren_acc (by rfl)) (renL_cons (ren_acc (by rfl)) (renL_cons (ren_acc (by rfl)) (renL_cons (by first | exact ren_accP (by rfl) q93 | rfl) (renL_cons (ren_acc (by rfl)) (renL_cons (ren_acc (by rfl)) (renL_cons (ren_acc (by rfl)) (renL_cons (ren_acc (by rfl)) (renL_nil _)))))))))) (by rfl)) (rh_upd (rh_acc (by rfl) (by rfl)) (rh_upd (rh_acc (by rfl) (by rfl)) (rh_upd (rh_acc (by rfl) (by rfl)) (rh_upd (by first | exact rh_accP (by rfl) q93 (by rfl) | exact rh_one (by rfl) (by rfl) (by rfl)) (rh_upd (rh_acc (by rfl) (by rfl)) (rh_upd (rh_acc (by rfl) (by rfl)) (rh_upd (rh_acc (by rfl) (by rfl)) (rh_upd (rh_acc (by rfl) (by rfl)) (rh_no _))))))))))), Nat.lt_succ_self _⟩
         ·try simp only [List.map_cons, accI, accN]
          exact ⟨⟨((c, (t30, t31, t32, l7, t34, t35, t36, t37, (IntKind.i64.wrap (t4 + 1)))), (g, g2, g3, (g4 + 1), g5, g6, g7, g8)), H87⟩, ren_mk [(0, 0), (1, 1), (2, 2), (3, 3), (4, 4), (5, 5), (6, 6), (7, 7), (8, 8), (9, 9)] (by rfl) (rf_upd (by rfl) (rf_upd (by rfl) (rf_upd (by rfl) (rf_upd (by rfl) (rf_no _))))) (rh_upd (rh_one (by rfl) (by rfl) (by rfl)) (rh_upd (rh_one (by rfl) (renO_bx (renL_cons (ren_acc (by rfl)) (renL_cons (ren_acc (by rfl)) (renL_cons (ren_acc (by rfl)) (renL_cons (by first | exact ren_accP (by rfl) q93 | rfl) (renL_cons (ren_acc (by rfl)) (renL_cons (ren_acc (by rfl)) (renL_cons (ren_acc (by rfl)) (renL_cons (ren_acc (by rfl)) (renL_nil _)))))))))) (by rfl)) (rh_upd (rh_acc (by rfl) (by rfl)) (rh_upd (rh_acc (by rfl) (by rfl)) (rh_upd (rh_acc (by rfl) (by rfl)) (rh_upd (by first | exact rh_accP (by rfl) q93 (by rfl) | exact rh_one (by rfl) (by rfl) (by rfl)) (rh_upd (rh_acc (by rfl) (by rfl)) (rh_upd (rh_acc (by rfl) (by rfl)) (rh_upd (rh_acc (by rfl) (by rfl)) (rh_upd (rh_acc (by rfl) (by rfl)) (rh_no _))))))))))), Nat.lt_succ_self _⟩
        ·refine Z1 (Y2 (Y6 c46 (zno .i64 h50) h52 c54 c64 c74) c84) ?_
         rcases zit H85 with ⟨c94, H95⟩ | ⟨c94, H95⟩
         ·obtain ⟨l8, b96, H97⟩ := zbi H95
          obtain ⟨h98, h99⟩ := app_inv b96
          have h98 : t34.length + 1 ≤ 4294967296 := h98
          have h100 : List.map eGGrant t34 ++ [[.v (.string x2.a), .v (.string x2.b), .v (.string x2.c)]] = List.map eGGrant l8 := app_map eGGrant h99
          have h101 : t34.length + 1 = l8.length := app_len h99
          have h102 : l8.length ≤ 4294967296 := by omega
          have q103 : 0 < l8.length := by omega
          refine Z1 (Y2 (Y6 c46 (zno .i64 h50) h52 c54 c64 c74) (Y6 c84 c94 h98 h100 h101 h102)) ?_
          rcases t34 with _ | ⟨q0, q1⟩
          ·try simp only [List.map_nil, accI, accN]
           exact ⟨⟨((c, (t30, t31, t32, t33, l8, t35, t36, t37, (IntKind.i64.wrap (t4 + 1)))), (g, g2, g3, g4, 0, g6, g7, g8)), H97⟩, ren_mk [(0, 0), (1, 1), (2, 2), (3, 3), (4, 4), (5, 5), (6, 42), (7, 7), (8, 8), (9, 9)] (by rfl) (rf_upd (by rfl) (rf_upd (by rfl) (rf_upd (by rfl) (rf_upd (by rfl) (rf_no _))))) (rh_upd (rh_one (by rfl) (by rfl) (by rfl)) (rh_upd (rh_one (by rfl) (renO_bx (renL_cons (ren_acc (by rfl)) (renL_cons (ren_acc (by rfl)) (renL_cons (ren_acc (by rfl)) (renL_cons (ren_acc (by rfl)) (renL_cons (by first | exact ren_accP (by rfl) q103 | rfl) (renL_cons (ren_acc (by rfl)) (renL_cons (ren_acc (by rfl)) (renL_cons (ren_acc (by rfl)) (renL_nil _)))))))))) (by rfl)) (rh_upd (rh_acc (by rfl) (by rfl)) (rh_upd (rh_acc (by rfl) (by rfl)) (rh_upd (rh_acc (by rfl) (by rfl)) (rh_upd (rh_acc (by rfl) (by rfl)) (rh_upd (by first | exact rh_accP (by rfl) q103 (by rfl) | exact rh_one (by rfl) (by rfl) (by rfl)) (rh_upd (rh_acc (by rfl) (by rfl)) (rh_upd (rh_acc (by rfl) (by rfl)) (rh_upd (rh_acc (by rfl) (by rfl)) (rh_no _))))))))))), Nat.lt_succ_self _⟩
          ·try simp only [List.map_cons, accI, accN]
           exact ⟨⟨((c, (t30, t31, t32, t33, l8, t35, t36, t37, (IntKind.i64.wrap (t4 + 1)))), (g, g2, g3, g4, (g5 + 1), g6, g7, g8)), H97⟩, ren_mk [(0, 0), (1, 1), (2, 2), (3, 3), (4, 4), (5, 5), (6, 6), (7, 7), (8, 8), (9, 9)] (by rfl) (rf_upd (by rfl) (rf_upd (by rfl) (rf_upd (by rfl) (rf_upd (by rfl) (rf_no _))))) (rh_upd (rh_one (by rfl) (by rfl) (by rfl)) (rh_upd (rh_one (by rfl) (renO_bx (renL_cons (ren_acc (by rfl)) (renL_cons (ren_acc (by rfl)) (renL_cons (ren_acc (by rfl)) (renL_cons (ren_acc (by rfl)) (renL_cons (by first | exact ren_accP (by rfl) q103 | rfl) (renL_cons (ren_acc (by rfl)) (renL_cons (ren_acc (by rfl)) (renL_cons (ren_acc (by rfl)) (renL_nil _)))))))))) (by rfl)) (rh_upd (rh_acc (by rfl) (by rfl)) (rh_upd (rh_acc (by rfl) (by rfl)) (rh_upd (rh_acc (by rfl) (by rfl)) (rh_upd (rh_acc (by rfl) (by rfl)) (rh_upd (by first | exact rh_accP (by rfl) q103 (by rfl) | exact rh_one (by rfl) (by rfl) (by rfl)) (rh_upd (rh_acc (by rfl) (by rfl)) (rh_upd (rh_acc (by rfl) (by rfl)) (rh_upd (rh_acc (by rfl) (by rfl)) (rh_no _))))))))))), Nat.lt_succ_self _⟩
         ·refine Z1 (Y2 (Y6 c46 (zno .i64 h50) h52 c54 c64 c74) (Y2 c84 c94)) ?_
          rcases zit H95 with ⟨c104, H105⟩ | ⟨c104, H105⟩
          ·obtain ⟨l9, b106, H107⟩ := zbi H105
           obtain ⟨h108, h109⟩ := app_inv b106
           have h109 : x2.l = l9 := h109
           subst h109
           have h108 : x2.l.length ≤ 4294967296 := by have := h108; simpa using this
           obtain ⟨l10, b112, H113⟩ := zbi H107
           obtain ⟨h114, h115⟩ := app_inv b112
           have h114 : t35.length + 1 ≤ 4294967296 := h114
           have h116 : List.map eGSod t35 ++ [[.v (.string x2.a), .v (.int .i64 x2.n_), .sl (List.map eS x2.l)]] = List.map eGSod l10 := app_map eGSod h115
           have h117 : t35.length + 1 = l10.length := app_len h115
           have h118 : l10.length ≤ 4294967296 := by omega
           have q119 : 0 < l10.length := by omega
           refine Z1 (Y3 (Y6 c46 (zno .i64 h50) h52 c54 c64 c74) (Y6 c84 c94 c104 (plainR_map (f := eS) (fun _ => rfl) x2.l) (chk_map (n := 1) (f := eS) (fun _ => rfl) x2.l) h108) (Y4 h114 h116 h117 h118)) ?_
           refine Rd_endF (by (cases t35 <;> rfl)) ?_
           refine Z1 (Y3 (Y6 c46 (zno .i64 h50) h52 c54 c64 c74) (Y6 c84 c94 c104 (plainR_map (f := eS) (fun _ => rfl) x2.l) (chk_map (n := 1) (f := eS) (fun _ => rfl) x2.l) h108) (Y4 h114 h116 h117 h118)) ?_
           rcases t35 with _ | ⟨q0, q1⟩
           ·try simp only [List.map_nil, accI, accN]
            exact ⟨⟨((c, (t30, t31, t32, t33, t34, l10, t36, t37, (IntKind.i64.wrap (t4 + 1)))), (g, g2, g3, g4, g5, 0, g7, g8)), H113⟩, ren_mk [(0, 0), (1, 1), (2, 2), (3, 3), (4, 4), (5, 5), (6, 6), (7, 46), (8, 8), (9, 9)] (by rfl) (rf_upd (by rfl) (rf_upd (by rfl) (rf_upd (by rfl) (rf_upd (by rfl) (rf_no _))))) (rh_upd (rh_one (by rfl) (by rfl) (by rfl)) (rh_upd (rh_one (by rfl) (renO_bx (renL_cons (ren_acc (by rfl)) (renL_cons (ren_acc (by rfl)) (renL_cons (ren_acc (by rfl)) (renL_cons (ren_acc (by rfl)) (renL_cons (ren_acc (by rfl)) (renL_cons (by first | exact ren_accP (by rfl) q119 | rfl) (renL_cons (ren_acc (by rfl)) (renL_cons (ren_acc (by rfl)) (renL_nil _)))))))))) (by rfl)) (rh_upd (rh_acc (by rfl) (by rfl)) (rh_upd (rh_acc (by rfl) (by rfl)) (rh_upd (rh_acc (by rfl) (by rfl)) (rh_upd (rh_acc (by rfl) (by rfl)) (rh_upd (rh_acc (by rfl) (by rfl)) (rh_upd (by first | exact rh_accP (by rfl) q119 (by rfl) | exact rh_one (by rfl) (by rfl) (by rfl)) (rh_upd (rh_acc (by rfl) (by rfl)) (rh_upd (rh_acc (by rfl) (by rfl)) (rh_no _))))))))))), Nat.lt_succ_self _⟩
           ·try simp only [List.map_cons, accI, accN]
            exact ⟨⟨((c, (t30, t31, t32, t33, t34, l10, t36, t37, (IntKind.i64.wrap (t4 + 1)))), (g, g2, g3, g4, g5, (g6 + 1), g7, g8)), H113⟩, ren_mk [(0, 0), (1, 1), (2, 2), (3, 3), (4, 4), (5, 5), (6, 6), (7, 7), (8, 8), (9, 9)] (by rfl) (rf_upd (by rfl) (rf_upd (by rfl) (rf_upd (by rfl) (rf_upd (by rfl) (rf_no _))))) (rh_upd (rh_one (by rfl) (by rfl) (by rfl)) (rh_upd (rh_one (by rfl) (renO_bx (renL_cons (ren_acc (by rfl)) (renL_cons (ren_acc (by rfl)) (renL_cons (ren_acc (by rfl)) (renL_cons (ren_acc (by rfl)) (renL_cons (ren_acc (by rfl)) (renL_cons (by first | exact ren_accP (by rfl) q119 | rfl) (renL_cons (ren_acc (by rfl)) (renL_cons (ren_acc (by rfl)) (renL_nil _)))))))))) (by rfl)) (rh_upd (rh_acc (by rfl) (by rfl)) (rh_upd (rh_acc (by rfl) (by rfl)) (rh_upd (rh_acc (by rfl) (by rfl)) (rh_upd (rh_acc (by rfl) (by rfl)) (rh_upd (rh_acc (by rfl) (by rfl)) (rh_upd (by first | exact rh_accP (by rfl) q119 (by rfl) | exact rh_one (by rfl) (by rfl) (by rfl)) (rh_upd (rh_acc (by rfl) (by rfl)) (rh_upd (rh_acc (by rfl) (by rfl)) (rh_no _))))))))))), Nat.lt_succ_self _⟩
          ·refine Z1 (Y2 (Y6 c46 (zno .i64 h50) h52 c54 c64 c74) (Y3 c84 c94 c104)) ?_
           rcases zit H105 with ⟨c120, H121⟩ | ⟨c120, H121⟩
           ·obtain ⟨l11, b122, H123⟩ := zbi H121
            obtain ⟨h124, h125⟩ := app_inv b122
            have h125 : x2.l = l11 := h125
            subst h125
            have h124 : x2.l.length ≤ 4294967296 := by have := h124; simpa using this
            obtain ⟨l12, b128, H129⟩ := zbi H123
            obtain ⟨h130, h131⟩ := app_inv b128
            have h130 : t36.length + 1 ≤ 4294967296 := h130
            have h132 : List.map eGSod t36 ++ [[.v (.string x2.a), .v (.int .i64 x2.n_), .sl (List.map eS x2.l)]] = List.map eGSod l12 := app_map eGSod h131
            have h133 : t36.length + 1 = l12.length := app_len h131
            have h134 : l12.length ≤ 4294967296 := by omega
            have q135 : 0 < l12.length := by omega
            refine Z1 (Y3 (Y6 c46 (zno .i64 h50) h52 c54 c64 c74) (Y6 c84 c94 c104 c120 (plainR_map (f := eS) (fun _ => rfl) x2.l) (chk_map (n := 1) (f := eS) (fun _ => rfl) x2.l)) (Y5 h124 h130 h132 h133 h134)) ?_
            refine Rd_endF (by (cases t36 <;> rfl)) ?_
            refine Z1 (Y3 (Y6 c46 (zno .i64 h50) h52 c54 c64 c74) (Y6 c84 c94 c104 c120 (plainR_map (f := eS) (fun _ => rfl) x2.l) (chk_map (n := 1) (f := eS) (fun _ => rfl) x2.l)) (Y5 h124 h130 h132 h133 h134)) ?_
            rcases t36 with _ | ⟨q0, q1⟩
            ·try simp only [List.map_nil, accI, accN]
             exact ⟨⟨((c, (t30, t31, t32, t33, t34, t35, l12, t37, (IntKind.i64.wrap (t4 + 1)))), (g, g2, g3, g4, g5, g6, 0, g8)), H129⟩, ren_mk [(0, 0), (1, 1), (2, 2), (3, 3), (4, 4), (5, 5), (6, 6), (7, 7), (8, 48), (9, 9)] (by rfl) (rf_upd (by rfl) (rf_upd (by rfl) (rf_upd (by rfl) (rf_upd (by rfl) (rf_no _))))) (rh_upd (rh_one (by rfl) (by rfl) (by rfl)) (rh_upd (rh_one (by rfl) (renO_bx (renL_cons (ren_acc (by rfl)) (renL_cons (ren_acc (by rfl)) (renL_cons (ren_acc (by rfl)) (renL_cons (ren_acc (by rfl)) (renL_cons (ren_acc (by rfl)) (renL_cons (ren_acc (by rfl)) (renL_cons (by first | exact ren_accP (by rfl) q135 | rfl) (renL_cons (ren_acc (by rfl)) (renL_nil _)))))))))) (by rfl)) (rh_upd (rh_acc (by rfl) (by rfl)) (rh_upd (rh_acc (by rfl) (by rfl)) (rh_upd (rh_acc (by rfl) (by rfl)) (rh_upd (rh_acc (by rfl) (by rfl)) (rh_upd (rh_acc (by rfl) (by rfl)) (rh_upd (rh_acc (by rfl) (by rfl)) (rh_upd (by first | exact rh_accP (by rfl) q135 (by rfl) | exact rh_one (by rfl) (by rfl) (by rfl)) (rh_upd (rh_acc (by rfl) (by rfl)) (rh_no _))))))))))), Nat.lt_succ_self _⟩
            ·try simp only [List.map_cons, accI, accN]
             exact ⟨⟨((c, (t30, t31, t32, t33, t34, t35, l12, t37, (IntKind.i64.wrap (t4 + 1)))), (g, g2, g3, g4, g5, g6, (g7 + 1), g8)), H129⟩, ren_mk [(0, 0), (1, 1), (2, 2), (3, 3), (4, 4), (5, 5), (6, 6), (7, 7), (8, 8), (9, 9)] (by rfl) (rf_upd (by rfl) (rf_upd (by rfl) (rf_upd (by rfl) (rf_upd (by rfl) (rf_no _))))) (rh_upd (rh_one (by rfl) (by rfl) (by rfl)) (rh_upd (rh_one (by rfl) (renO_bx (renL_cons (ren_acc (by rfl)) (renL_cons (ren_acc (by rfl)) (renL_cons (ren_acc (by rfl)) (renL_cons (ren_acc (by rfl)) (renL_cons (ren_acc (by rfl)) (renL_cons (ren_acc (by rfl)) (renL_cons (by first | exact ren_accP (by rfl) q135 | rfl) (renL_cons (ren_acc (by rfl)) (renL_nil _)))))))))) (by rfl)) (rh_upd (rh_acc (by rfl) (by rfl)) (rh_upd (rh_acc (by rfl) (by rfl)) (rh_upd (rh_acc (by rfl) (by rfl)) (rh_upd (rh_acc (by rfl) (by rfl)) (rh_upd (rh_acc (by rfl) (by rfl)) (rh_upd (rh_acc (by rfl) (by rfl)) (rh_upd (by first | exact rh_accP (by rfl) q135 (by rfl) | exact rh_one (by rfl) (by rfl) (by rfl)) (rh_upd (rh_acc (by rfl) (by rfl)) (rh_no _))))))))))), Nat.lt_succ_self _⟩
           ·refine Z1 (Y2 (Y6 c46 (zno .i64 h50) h52 c54 c64 c74) (Y4 c84 c94 c104 c120)) ?_
            rcases zit H121 with ⟨c136, H137⟩ | ⟨c136, H137⟩
            ·obtain ⟨l13, b138, H139⟩ := zbi H137
             obtain ⟨h140, h141⟩ := app_inv b138
             have h141 : x2.l = l13 := h141
             subst h141
             have h140 : x2.l.length ≤ 4294967296 := by have := h140; simpa using this
             obtain ⟨l14, b144, H145⟩ := zbi H139
             obtain ⟨h146, h147⟩ := app_inv b144
             have h146 : t37.length + 1 ≤ 4294967296 := h146
             have h148 : List.map eGSession t37 ++ [[.v (.string x2.a), .v (.string x2.b), .sl (List.map eS x2.l)]] = List.map eGSession l14 := app_map eGSession h147
             have h149 : t37.length + 1 = l14.length := app_len h147
             have h150 : l14.length ≤ 4294967296 := by omega
             have q151 : 0 < l14.length := by omega
             refine Z1 (Y3 (Y6 c46 (zno .i64 h50) h52 c54 c64 c74) (Y6 c84 c94 c104 c120 c136 (plainR_map (f := eS) (fun _ => rfl) x2.l)) (Y6 (chk_map (n := 1) (f := eS) (fun _ => rfl) x2.l) h140 h146 h148 h149 h150)) ?_
             refine Rd_endF (by (cases t37 <;> rfl)) ?_
             refine Z1 (Y3 (Y6 c46 (zno .i64 h50) h52 c54 c64 c74) (Y6 c84 c94 c104 c120 c136 (plainR_map (f := eS) (fun _ => rfl) x2.l)) (Y6 (chk_map (n := 1) (f := eS) (fun _ => rfl) x2.l) h140 h146 h148 h149 h150)) ?_
             rcases t37 with _ | ⟨q0, q1⟩
             ·try simp only [List.map_nil, accI, accN]
              exact ⟨⟨((c, (t30, t31, t32, t33, t34, t35, t36, l14, (IntKind.i64.wrap (t4 + 1)))), (g, g2, g3, g4, g5, g6, g7, 0)), H145⟩, ren_mk [(0, 0), (1, 1), (2, 2), (3, 3), (4, 4), (5, 5), (6, 6), (7, 7), (8, 8), (9, 50)] (by rfl) (rf_upd (by rfl) (rf_upd (by rfl) (rf_upd (by rfl) (rf_upd (by rfl) (rf_no _))))) (rh_upd (rh_one (by rfl) (by rfl) (by rfl)) (rh_upd (rh_one (by rfl) (renO_bx (renL_cons (ren_acc (by rfl)) (renL_cons (ren_acc (by rfl)) (renL_cons (ren_acc (by rfl)) (renL_cons (ren_acc (by rfl)) (renL_cons (ren_acc (by rfl)) (renL_cons (ren_acc (by rfl)) (renL_cons (ren_acc (by rfl)) (renL_cons (by first | exact ren_accP (by rfl) q151 | rfl) (renL_nil _)))))))))) (by rfl)) (rh_upd (rh_acc (by rfl) (by rfl)) (rh_upd (rh_acc (by rfl) (by rfl)) (rh_upd (rh_acc (by rfl) (by rfl)) (rh_upd (rh_acc (by rfl) (by rfl)) (rh_upd (rh_acc (by rfl) (by rfl)) (rh_upd (rh_acc (by rfl) (by rfl)) (rh_upd (rh_acc (by rfl) (by rfl)) (rh_upd (by first | exact rh_accP (by rfl) q151 (by rfl) | exact rh_one (by rfl) (by rfl) (by rfl)) (rh_no _))))))))))), Nat.lt_succ_self _⟩
             ·try simp only [List.map_cons, accI, accN]
              exact ⟨⟨((c, (t30, t31, t32, t33, t34, t35, t36, l14, (IntKind.i64.wrap (t4 + 1)))), (g, g2, g3, g4, g5, g6, g7, (g8 + 1))), H145⟩, ren_mk [(0, 0), (1, 1), (2, 2), (3, 3), (4, 4), (5, 5), (6, 6), (7, 7), (8, 8), (9, 9)] (by rfl) (rf_upd (by rfl) (rf_upd (by rfl) (rf_upd (by rfl) (rf_upd (by rfl) (rf_no _))))) (rh_upd (rh_one (by rfl) (by rfl) (by rfl)) (rh_upd (rh_one (by rfl) (renO_bx (renL_cons (ren_acc (by rfl)) (renL_cons (ren_acc (by rfl)) (renL_cons (ren_acc (by rfl)) (renL_cons (ren_acc (by rfl)) (renL_cons (ren_acc (by rfl)) (renL_cons (ren_acc (by rfl)) (renL_cons (ren_acc (by rfl)) (renL_cons (by first | exact ren_accP (by rfl) q151 | rfl) (renL_nil _)))))))))) (by rfl)) (rh_upd (rh_acc (by rfl) (by rfl)) (rh_upd (rh_acc (by rfl) (by rfl)) (rh_upd (rh_acc (by rfl) (by rfl)) (rh_upd (rh_acc (by rfl) (by rfl)) (rh_upd (rh_acc (by rfl) (by rfl)) (rh_upd (rh_acc (by rfl) (by rfl)) (rh_upd (rh_acc (by rfl) (by rfl)) (rh_upd (by first | exact rh_accP (by rfl) q151 (by rfl) | exact rh_one (by rfl) (by rfl) (by rfl)) (rh_no _))))))))))), Nat.lt_succ_self _⟩
            ·refine Z1 (Y2 (Y6 c46 (zno .i64 h50) h52 c54 c64 c74) (Y5 c84 c94 c104 c120 c136)) ?_
             exact ⟨⟨((c, (t30, t31, t32, t33, t34, t35, t36, t37, (IntKind.i64.wrap (t4 + 1)))), (g, g2, g3, g4, g5, g6, g7, g8)), H137⟩, ren_mk [(0, 0), (1, 1), (2, 2), (3, 3), (4, 4), (5, 5), (6, 6), (7, 7), (8, 8), (9, 9)] (by rfl) (rf_upd (by rfl) (rf_upd (by rfl) (rf_upd (by rfl) (rf_upd (by rfl) (rf_no _))))) (rh_upd (rh_one (by rfl) (by rfl) (by rfl)) (rh_upd (rh_one (by rfl) (renO_bx (renL_cons (ren_acc (by rfl)) (renL_cons (ren_acc (by rfl)) (renL_cons (ren_acc (by rfl)) (renL_cons (ren_acc (by rfl)) (renL_cons (ren_acc (by rfl)) (renL_cons (ren_acc (by rfl)) (renL_cons (ren_acc (by rfl)) (renL_cons (ren_acc (by rfl)) (renL_nil _)))))))))) (by rfl)) (rh_upd (rh_acc (by rfl) (by rfl)) (rh_upd (rh_acc (by rfl) (by rfl)) (rh_upd (rh_acc (by rfl) (by rfl)) (rh_upd (rh_acc (by rfl) (by rfl)) (rh_upd (rh_acc (by rfl) (by rfl)) (rh_upd (rh_acc (by rfl) (by rfl)) (rh_upd (rh_acc (by rfl) (by rfl)) (rh_upd (rh_acc (by rfl) (by rfl)) (rh_no _))))))))))), Nat.lt_succ_self _⟩
    ·refine Z1 c46 ?_
     obtain rfl := Zi H47
     exact ⟨⟨⟨(t30, t31, t32, t33, t34, t35, t36, t37), rfl⟩, (g, g2, g3, g4, g5, g6, g7, g8)⟩, ren_mk [(0, 0), (1, 1), (2, 2), (3, 3), (4, 4), (5, 5), (6, 6), (7, 7), (8, 8), (9, 9)] (by rfl) (rf_upd (by rfl) (rf_upd (by rfl) (rf_no _))) (rh_upd (rh_one (by rfl) (by rfl) (by rfl)) (rh_upd (rh_one (by rfl) (renO_bx (renL_cons (ren_acc (by rfl)) (renL_cons (ren_acc (by rfl)) (renL_cons (ren_acc (by rfl)) (renL_cons (ren_acc (by rfl)) (renL_cons (ren_acc (by rfl)) (renL_cons (ren_acc (by rfl)) (renL_cons (ren_acc (by rfl)) (renL_cons (ren_acc (by rfl)) (renL_nil _)))))))))) (by rfl)) (rh_upd (rh_acc (by rfl) (by rfl)) (rh_upd (rh_acc (by rfl) (by rfl)) (rh_upd (rh_acc (by rfl) (by rfl)) (rh_upd (rh_acc (by rfl) (by rfl)) (rh_upd (rh_acc (by rfl) (by rfl)) (rh_upd (rh_acc (by rfl) (by rfl)) (rh_upd (rh_acc (by rfl) (by rfl)) (rh_upd (rh_acc (by rfl) (by rfl)) (rh_no _)))))))))))⟩
 ·rintro ⟨⟨⟨t303, t313, t323, t333, t343, t353, t363, t373⟩, he152⟩, ⟨g17, g18, g19, g20, g21, g22, g23, g24⟩⟩
  obtain rfl := he152.symm
  try dsimp only at H2
  refine ZT 1 ?_
  refine Z0 ?_
  obtain rfl := Zi H2
  exact ZE0
end Go.Proofs.Ytkkhgdmmbhpckaa.Ab
