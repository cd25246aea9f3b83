/-
 Functions, read off the code.
-/
import Derived.Test.YtgmhbmcdlkajdaaGreatDoorPts
import Derived.Test.YtgmhbmcdlkajdaaGreatDoorKs
namespace Go.Proofs.YtgmhbmcdlkajdaaGreatDoor.Ab
open Go.RowKit
def cmp_Or_L1 (n : Nat) (vals : List Int) : Nat → Int → Option ((Unit) ⊕ Int)
 | 0, _ => none
 | c + 1, t8 =>
  (if (decide (t8 < (vals.length : Int))) then
   (idx vals t8).bind fun x2 =>
   (if (x2 != 0) then
    some (.inr x2)
   else
    cmp_Or_L1 n vals c (IntKind.i64.wrap (t8 + 1)))
  else
   some (.inl ()))
def cmp_Or_L1_f (_ : Nat) (_ : List Int) (st : Unit) (x2 : Int) (k : Unit → Option ((Unit) ⊕ Int)) : Option ((Unit) ⊕ Int) :=
 match st with
 | _ =>
  (if (x2 != 0) then
   some (.inr x2)
  else
   k ())
def cmp_Or_L1_e (_ : Nat) (_ : List Int) (st : Unit) : Option ((Unit) ⊕ Int) :=
 match st with
 | _ => some (.inl ())
theorem cmp_Or_L1_list (n : Nat) (vals : List Int) (hx : vals.length < 4611686018427387904) (c : Nat) (st : Unit) (ix : Nat) (hi : ix ≤ vals.length) (hc : vals.length - ix < c) : cmp_Or_L1 n vals c (match st, (ix : Int) with | _, ix => ix) = foldK (cmp_Or_L1_f n vals) (cmp_Or_L1_e n vals) (vals.drop ix) st :=
 loop_list (fun c st ix => cmp_Or_L1 n vals c (match st, ix with | _, ix => ix)) vals (cmp_Or_L1_f n vals) (cmp_Or_L1_e n vals) (fun _ _ _ => rfl) hx c st ix hi hc
def cmp_Or (n : Nat) (vals : List Int) : Option Int :=
 (
  cmp_Or_L1 n vals n 0 : Option ((Unit) ⊕ Int)).bind fun
  | .inl _ =>
   some 0
  | .inr r => some r
theorem cmp_Or_ok {n : Nat} {vals : List Int} {r : Int} (H : cmp_Or n vals = some r) : PureOK Tryz.prog 88 [D.sl (List.map eI vals)] (D.v (.int .i64 r)) true := by
 unfold cmp_Or at H
 refine ZP tab_ok fol (rs := #[.tmp 2]) Tryz.func88 ?_
 refine zsq (ZT 1 ?_)
 refine Z0 ?_
 refine zsq (ZT 1 ?_)
 refine Z0 ?_
 refine zsq (zsq ?_)
 refine ZT 1 ?_
 refine Z0 ?_
 obtain ⟨e_, E1, H2⟩ := zbi H
 refine zjn (α := { y : Unit // e_ = .inl y }) (fun | ⟨_, _⟩ => ⟨upd 3 (.v (.int .i64 0)) noFr, noHp, 0⟩) ?_ ?_
 ·refine zbk ?_
  refine zlp (α := { q : Nat × Int // cmp_Or_L1 n vals q.1 q.2 = some e_ }) (fun | ⟨⟨c, t8⟩, _⟩ => ⟨upd 3 (.v (.int .i64 0)) (upd 6 (.d (.sl (List.map eI vals)) true) (upd 7 (.v (.int .i64 (vals.length : Int))) (upd 8 (.v (.int .i64 t8)) noFr))), noHp, 0⟩) (fun q => q.1.1) ⟨(n, 0), E1⟩ ?_ ?_
  ·exact ZR []
  ·rintro ⟨⟨c, t8⟩, L3⟩
   rcases c with _ | c
   ·exact Zx L3
   ·unfold cmp_Or_L1 at L3
    try dsimp only at L3
    refine ZT 1 ?_
    refine Z0 ?_
    rcases zit L3 with ⟨c14, H15⟩ | ⟨c14, H15⟩
    ·obtain ⟨x2, b16, H17⟩ := zbi H15
     obtain ⟨h18, h19⟩ := zix b16
     try simp only [Int.reduceToNat, Int.toNat_natCast] at h19
     have h20 := map_at eI h19
     refine Z1 (Y3 c14 (zno .i64 h18) h20) ?_
     rcases zit H17 with ⟨c22, H23⟩ | ⟨c22, H23⟩
     ·refine Z1 (Y4 c14 (zno .i64 h18) h20 c22) ?_
      obtain rfl := Zi H23
      obtain rfl := Zi H2
      exact ZE0
     ·refine Z1 (Y4 c14 (zno .i64 h18) h20 c22) ?_
      exact ⟨⟨(c, (IntKind.i64.wrap (t8 + 1))), H23⟩, ZR [], Nat.lt_succ_self _⟩
    ·refine Z1 c14 ?_
     obtain rfl := Zi H15
     exact ⟨⟨(), rfl⟩, ZR []⟩
 ·rintro ⟨_, he24⟩
  obtain rfl := he24.symm
  try dsimp only at H2
  refine ZT 1 ?_
  refine Z0 ?_
  obtain rfl := Zi H2
  exact ZE0
def cmp_isNaN (_ : Nat) (x : Int) : Option Bool :=
 some (x != x)
theorem cmp_isNaN_ok {n : Nat} {x : Int} {r : Bool} (H : cmp_isNaN n x = some r) : PureOK Tryz.prog 112 [D.v (.int .i64 x)] (D.v (.bool r)) true := by
 unfold cmp_isNaN at H
 refine ZP tab_ok fol (rs := #[.tmp 2]) Tryz.func112 ?_
 refine ZT 1 ?_
 refine Z0 ?_
 obtain rfl := Zi H
 exact ZE0
def cmp_Compare (n : Nat) (x : Int) (y : Int) : Option Int :=
 (cmp_isNaN n x).bind fun t8 =>
 (cmp_isNaN n y).bind fun t10 =>
 (if t8 then
  (if t10 then
   some 0
  else
   some (-1))
 else
  (if t10 then
   some 1
  else
   (if (decide (x < y)) then
    some (-1)
   else
    (if (decide (y < x)) then
     some 1
    else
     some 0))))
theorem cmp_Compare_ok {n : Nat} {x : Int} {y : Int} {r : Int} (H : cmp_Compare n x y = some r) : PureOK Tryz.prog 89 [D.v (.int .i64 x), D.v (.int .i64 y)] (D.v (.int .i64 r)) true := by
 unfold cmp_Compare at H
 refine ZP tab_ok fol (rs := #[.tmp 4]) Tryz.func89 ?_
 refine ZT 1 ?_
 obtain ⟨t8, b1, H2⟩ := zbi H
 refine Z0 ?_
 refine ZC0 (cmp_isNaN_ok b1) ?_
 obtain ⟨t10, b3, H4⟩ := zbi H2
 refine Z0 ?_
 refine ZC0 (cmp_isNaN_ok b3) ?_
 refine Z0 ?_
 rcases zit H4 with ⟨c5, H6⟩ | ⟨c5, H6⟩
 ·refine Z1 c5 ?_
  rcases zit H6 with ⟨c7, H8⟩ | ⟨c7, H8⟩
  ·refine Z1 (Y2 c5 c7) ?_
   obtain rfl := Zi H8
   exact ZE0
  ·refine Z1 (Y2 c5 c7) ?_
   obtain rfl := Zi H8
   exact ZE0
 ·refine Z1 c5 ?_
  rcases zit H6 with ⟨c9, H10⟩ | ⟨c9, H10⟩
  ·refine Z1 (Y2 c5 c9) ?_
   obtain rfl := Zi H10
   exact ZE0
  ·refine Z1 (Y2 c5 c9) ?_
   rcases zit H10 with ⟨c11, H12⟩ | ⟨c11, H12⟩
   ·refine Z1 (Y3 c5 c9 c11) ?_
    obtain rfl := Zi H12
    exact ZE0
   ·refine Z1 (Y3 c5 c9 c11) ?_
    rcases zit H12 with ⟨c13, H14⟩ | ⟨c13, H14⟩
    ·refine Z1 (Y4 c5 c9 c11 c13) ?_
     obtain rfl := Zi H14
     exact ZE0
    ·refine Z1 (Y4 c5 c9 c11 c13) ?_
     obtain rfl := Zi H14
     exact ZE0
def mask_flag (_ : Nat) (is : Bool) : Option Int :=
 (if is then
  some 1
 else
  some 0)
theorem mask_flag_ok {n : Nat} {is : Bool} {r : Int} (H : mask_flag n is = some r) : PureOK Tryz.prog 90 [D.v (.bool is)] (D.v (.int .i64 r)) true := by
 unfold mask_flag at H
 refine ZP tab_ok fol (rs := #[.tmp 2]) Tryz.func90 ?_
 refine ZT 1 ?_
 refine Z0 ?_
 rcases zit H with ⟨c1, H2⟩ | ⟨c1, H2⟩
 ·refine Z1 c1 ?_
  obtain rfl := Zi H2
  exact ZE0
 ·refine Z1 c1 ?_
  obtain rfl := Zi H2
  exact ZE0
def strings_Compare (n : Nat) (a : ByteArray) (b : ByteArray) : Option Int :=
 (bytealg_CompareString n a b).bind fun t7 =>
 some t7
theorem strings_Compare_ok {n : Nat} {a : ByteArray} {b : ByteArray} {r : Int} (H : strings_Compare n a b = some r) : PureOK Tryz.prog 91 [D.v (.string a), D.v (.string b)] (D.v (.int .i64 r)) true := by
 unfold strings_Compare at H
 refine ZP tab_ok fol (rs := #[.tmp 4]) Tryz.func91 ?_
 refine ZT 1 ?_
 obtain ⟨t7, b1, H2⟩ := zbi H
 refine Z0 ?_
 refine ZC0 (bytealg_CompareString_ok b1) ?_
 refine Z0 ?_
 obtain rfl := Zi H2
 exact ZE0
def mask_compare (n : Nat) (a : GEntry) (b : GEntry) : Option Int :=
 (mask_flag n a.default).bind fun t7 =>
 (mask_flag n b.default).bind fun t10 =>
 (cmp_Compare n t7 t10).bind fun t11 =>
 (cmp_Compare n a.kind b.kind).bind fun t16 =>
 (strings_Compare n a.name b.name).bind fun t21 =>
 (cmp_Or n [t11, t16, t21]).bind fun t23 =>
 some t23
theorem mask_compare_ok {n : Nat} {a : GEntry} {b : GEntry} {r : Int} (H : mask_compare n a b = some r) : PureOK Tryz.prog 62 [D.ag (eGEntry a), D.ag (eGEntry b)] (D.v (.int .i64 r)) true := by
 unfold mask_compare at H
 refine ZP tab_ok fol (rs := #[.tmp 4]) Tryz.func62 ?_
 refine ZT 1 ?_
 obtain ⟨t7, b1, H2⟩ := zbi H
 refine Z0 ?_
 refine ZD0 (mask_flag_ok b1) ?_
 obtain ⟨t10, b3, H4⟩ := zbi H2
 refine Z0 ?_
 refine ZD0 (mask_flag_ok b3) ?_
 obtain ⟨t11, b5, H6⟩ := zbi H4
 refine Z0 ?_
 refine ZD0 (cmp_Compare_ok b5) ?_
 obtain ⟨t16, b7, H8⟩ := zbi H6
 refine Z0 ?_
 refine ZD0 (cmp_Compare_ok b7) ?_
 obtain ⟨t21, b9, H10⟩ := zbi H8
 refine Z0 ?_
 refine ZD0 (strings_Compare_ok b9) ?_
 obtain ⟨t23, b11, H12⟩ := zbi H10
 refine Z0 ?_
 refine ZD0 (cmp_Or_ok b11) ?_
 refine Z0 ?_
 refine Rd_endF (by rfl) ?_
 refine Z0 ?_
 obtain rfl := Zi H12
 exact ZE0
end Go.Proofs.YtgmhbmcdlkajdaaGreatDoor.Ab
