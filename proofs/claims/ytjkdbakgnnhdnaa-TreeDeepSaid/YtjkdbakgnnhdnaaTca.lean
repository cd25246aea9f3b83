/-
 Functions, read off the code.
-/
import Derived.Test.YtjkdbakgnnhdnaaSgs
import Derived.Test.YtjkdbakgnnhdnaaKs
namespace Go.Proofs.Ytjkdbakgnnhdnaa.Ab
open Go.RowKit
def cmp_Or_L1 (n : Nat) (vals : List Int) : Nat → Int → Option ((Unit) ⊕ Int)
 | 0, _ => none
 | c + 1, t8 =>
  (if (decide (t8 < (vals.length : Int))) then
   (idx vals t8).bind fun x2 =>
   (if (x2 != 0) then
    some (.inr x2)
   else
    cmp_Or_L1 n vals c (IntKind.i64.wrap (t8 + 1)))
  else
   some (.inl ()))
def cmp_Or (n : Nat) (vals : List Int) : Option Int :=
 (
  cmp_Or_L1 n vals n 0 : Option ((Unit) ⊕ Int)).bind fun
  | .inl _ =>
   some 0
  | .inr r => some r
theorem cmp_Or_ok {n : Nat} {vals : List Int} {r : Int} (H : cmp_Or n vals = some r) : PureOK Try.prog 66 [D.sl (List.map eI vals)] (D.v (.int .i64 r)) true := by
 unfold cmp_Or at H
 refine ZP tab_ok fol (rs := #[.tmp 2]) Try.func66 ?_
 refine zsq (ZT 1 ?_)
 refine Z0 ?_
 refine zsq (ZT 1 ?_)
 refine Z0 ?_
 refine zsq (zsq ?_)
 refine ZT 1 ?_
 refine Z0 ?_
 obtain ⟨e_, E1, H2⟩ := zbi H
 refine zjn (α := { y : Unit // e_ = .inl y }) (fun | ⟨_, _⟩ => ⟨upd 3 (.v (.int .i64 0)) noFr, noHp, 0⟩) ?_ ?_
 ·refine zbk ?_
  refine zlp (α := { q : Nat × Int // cmp_Or_L1 n vals q.1 q.2 = some e_ }) (fun | ⟨⟨c, t8⟩, _⟩ => ⟨upd 3 (.v (.int .i64 0)) (upd 6 (.d (.sl (List.map eI vals)) true) (upd 7 (.v (.int .i64 (vals.length : Int))) (upd 8 (.v (.int .i64 t8)) noFr))), noHp, 0⟩) (fun q => q.1.1) ⟨(n, 0), E1⟩ ?_ ?_
  ·exact ZR []
  ·rintro ⟨⟨c, t8⟩, L3⟩
   rcases c with _ | c
   ·exact Zx L3
   ·unfold cmp_Or_L1 at L3
    try dsimp only at L3
    refine ZT 1 ?_
    refine Z0 ?_
    rcases zit L3 with ⟨c14, H15⟩ | ⟨c14, H15⟩
    ·obtain ⟨x2, b16, H17⟩ := zbi H15
     obtain ⟨h18, h19⟩ := zix b16
     try simp only [Int.reduceToNat, Int.toNat_natCast] at h19
     have h20 := map_at eI h19
     refine Z1 (Y3 c14 (zno .i64 h18) h20) ?_
     rcases zit H17 with ⟨c22, H23⟩ | ⟨c22, H23⟩
     ·refine Z1 (Y4 c14 (zno .i64 h18) h20 c22) ?_
      obtain rfl := Zi H23
      obtain rfl := Zi H2
      exact ZE0
     ·refine Z1 (Y4 c14 (zno .i64 h18) h20 c22) ?_
      exact ⟨⟨(c, (IntKind.i64.wrap (t8 + 1))), H23⟩, ZR [], Nat.lt_succ_self _⟩
    ·refine Z1 c14 ?_
     obtain rfl := Zi H15
     exact ⟨⟨(), rfl⟩, ZR []⟩
 ·rintro ⟨_, he24⟩
  obtain rfl := he24.symm
  try dsimp only at H2
  refine ZT 1 ?_
  refine Z0 ?_
  obtain rfl := Zi H2
  exact ZE0
def strings_Compare (n : Nat) (a : ByteArray) (b : ByteArray) : Option Int :=
 (bytealg_CompareString n a b).bind fun t7 =>
 some t7
theorem strings_Compare_ok {n : Nat} {a : ByteArray} {b : ByteArray} {r : Int} (H : strings_Compare n a b = some r) : PureOK Try.prog 67 [D.v (.string a), D.v (.string b)] (D.v (.int .i64 r)) true := by
 unfold strings_Compare at H
 refine ZP tab_ok fol (rs := #[.tmp 4]) Try.func67 ?_
 refine ZT 1 ?_
 obtain ⟨t7, b1, H2⟩ := zbi H
 refine Z0 ?_
 refine ZC0 (bytealg_CompareString_ok b1) ?_
 refine Z0 ?_
 obtain rfl := Zi H2
 exact ZE0
def tupl_Compare (n : Nat) (a : GTuple) (b : GTuple) : Option Int :=
 (strings_Compare n a.obj.type_ b.obj.type_).bind fun t11 =>
 (strings_Compare n a.obj.id_ b.obj.id_).bind fun t18 =>
 (strings_Compare n a.rel b.rel).bind fun t23 =>
 (strings_Compare n a.sub_.type_ b.sub_.type_).bind fun t30 =>
 (strings_Compare n a.sub_.id_ b.sub_.id_).bind fun t37 =>
 (strings_Compare n a.sub_.rel b.sub_.rel).bind fun t44 =>
 (cmp_Or n [t11, t18, t23, t30, t37, t44]).bind fun t46 =>
 some t46
theorem tupl_Compare_ok {n : Nat} {a : GTuple} {b : GTuple} {r : Int} (H : tupl_Compare n a b = some r) : PureOK Try.prog 57 [D.ag (eGTuple a), D.ag (eGTuple b)] (D.v (.int .i64 r)) true := by
 unfold tupl_Compare at H
 refine ZP tab_ok fol (rs := #[.tmp 4]) Try.func57 ?_
 refine ZT 1 ?_
 obtain ⟨t11, b1, H2⟩ := zbi H
 refine Z0 ?_
 refine ZD0 (strings_Compare_ok b1) ?_
 obtain ⟨t18, b3, H4⟩ := zbi H2
 refine Z0 ?_
 refine ZD0 (strings_Compare_ok b3) ?_
 obtain ⟨t23, b5, H6⟩ := zbi H4
 refine Z0 ?_
 refine ZD0 (strings_Compare_ok b5) ?_
 obtain ⟨t30, b7, H8⟩ := zbi H6
 refine Z0 ?_
 refine ZD0 (strings_Compare_ok b7) ?_
 obtain ⟨t37, b9, H10⟩ := zbi H8
 refine Z0 ?_
 refine ZD0 (strings_Compare_ok b9) ?_
 obtain ⟨t44, b11, H12⟩ := zbi H10
 refine Z0 ?_
 refine ZD0 (strings_Compare_ok b11) ?_
 obtain ⟨t46, b13, H14⟩ := zbi H12
 refine Z0 ?_
 refine ZD0 (cmp_Or_ok b13) ?_
 refine Z0 ?_
 refine Rd_endF (by kernel_rfl) ?_
 refine Z0 ?_
 obtain rfl := Zi H14
 exact ZE0
end Go.Proofs.Ytjkdbakgnnhdnaa.Ab
