/-
 Functions, read off the code.
-/
import Derived.Test.YtkkhgdmmbhpckaaGreatNms
import Derived.Test.YtkkhgdmmbhpckaaGreatKs
namespace Go.Proofs.YtkkhgdmmbhpckaaGreat.Ab
open Go.RowKit
def zP_ (n : Nat) (vals : List Int) : Nat → Int → Option ((Unit) ⊕ Int)
 | 0, _ => none
 | c + 1, t8 =>
  (if (decide (t8 < (vals.length : Int))) then
   (idx vals t8).bind fun x2 =>
   (if (x2 != 0) then
    some (.inr x2)
   else
    zP_ n vals c (IntKind.i64.wrap (t8 + 1)))
  else
   some (.inl ()))
def kc_ (n : Nat) (vals : List Int) : Option Int :=
 (
  zP_ n vals n 0 : Option ((Unit) ⊕ Int)).bind fun
  | .inl _ =>
   some 0
  | .inr r => some r
theorem kd_ {n : Nat} {vals : List Int} {r : Int} (H : kc_ n vals = some r) : PureOK Tryz.prog 59 [D.sl (List.map eI vals)] (D.v (.int .i64 r)) true := by
 unfold kc_ at H;refine ZP qo_ fol (rs := #[.tmp 2]) Tryz.func59 ?_;refine zsq (ZT 1 ?_);refine Z0 ?_;refine zsq (ZT 1 ?_);refine Z0 ?_;refine zsq (zsq ?_);refine ZT 1 ?_;refine Z0 ?_;obtain ⟨e_, E1, H2⟩ := zbi H;refine zjn (α := { y : Unit // e_ = .inl y }) (fun | ⟨_, _⟩ => ⟨upd 3 (.v (.int .i64 0)) noFr, noHp, 0⟩) ?_ ?_
 ·refine zbk ?_
  refine zlp (α := { q : Nat × Int // zP_ n vals q.1 q.2 = some e_ }) (fun | ⟨⟨c, t8⟩, _⟩ => ⟨upd 3 (.v (.int .i64 0)) (upd 6 (.d (.sl (List.map eI vals)) true) (upd 7 (.v (.int .i64 (vals.length : Int))) (upd 8 (.v (.int .i64 t8)) noFr))), noHp, 0⟩) (fun q => q.1.1) ⟨(n, 0), E1⟩ ?_ ?_
  ·exact ZR []
  ·rintro ⟨⟨c, t8⟩, L3⟩
   rcases c with _ | c
   ·exact Zx L3
   ·unfold zP_ at L3
    try dsimp only at L3
    refine ZT 1 ?_;refine Z0 ?_;rcases zit L3 with ⟨c14, H15⟩ | ⟨c14, H15⟩
    ·obtain ⟨x2, b16, H17⟩ := zbi H15
     obtain ⟨h18, h19⟩ := zix b16;try simp only [Int.reduceToNat, Int.toNat_natCast] at h19
     have h20 := qi_ eI h19;refine Z1 (Y3 c14 (zno .i64 h18) h20) ?_;rcases zit H17 with ⟨c22, H23⟩ | ⟨c22, H23⟩
     ·refine Z1 (Y4 c14 (zno .i64 h18) h20 c22) ?_
      obtain rfl := Zi H23;obtain rfl := Zi H2;exact ZE0
     ·refine Z1 (Y4 c14 (zno .i64 h18) h20 c22) ?_
      exact ⟨⟨(c, (IntKind.i64.wrap (t8 + 1))), H23⟩, ZR [], Nat.lt_succ_self _⟩
    ·refine Z1 c14 ?_
     obtain rfl := Zi H15;exact ⟨⟨(), rfl⟩, ZR []⟩
 ·rintro ⟨_, he24⟩
  obtain rfl := he24.symm;try dsimp only at H2
  refine ZT 1 ?_;refine Z0 ?_;obtain rfl := Zi H2;exact ZE0
def qA_ (n : Nat) (a : ByteArray) (b : ByteArray) : Option Int :=
 (bytealg_CompareString n a b).bind fun t7 =>
 some t7
theorem qK_ {n : Nat} {a : ByteArray} {b : ByteArray} {r : Int} (H : qA_ n a b = some r) : PureOK Tryz.prog 60 [D.v (.string a), D.v (.string b)] (D.v (.int .i64 r)) true := by
 unfold qA_ at H;refine ZP qo_ fol (rs := #[.tmp 4]) Tryz.func60 ?_;refine ZT 1 ?_;obtain ⟨t7, b1, H2⟩ := zbi H;refine Z0 ?_;refine ZC0 (vB_ b1) ?_;refine Z0 ?_;obtain rfl := Zi H2;exact ZE0
def zA_ (n : Nat) (a : GPair) (b : GPair) : Option Int :=
 (qA_ n a.a b.a).bind fun t9 =>
 (qA_ n a.b b.b).bind fun t14 =>
 (kc_ n [t9, t14]).bind fun t16 =>
 some t16
theorem yi_ {n : Nat} {a : GPair} {b : GPair} {r : Int} (H : zA_ n a b = some r) : PureOK Tryz.prog 58 [D.ag (eGPair a), D.ag (eGPair b)] (D.v (.int .i64 r)) true := by
 unfold zA_ at H;refine ZP qo_ fol (rs := #[.tmp 4]) Tryz.func58 ?_;refine ZT 1 ?_;obtain ⟨t9, b1, H2⟩ := zbi H;refine Z0 ?_;refine ZD0 (qK_ b1) ?_;obtain ⟨t14, b3, H4⟩ := zbi H2;refine Z0 ?_;refine ZD0 (qK_ b3) ?_;obtain ⟨t16, b5, H6⟩ := zbi H4;refine Z0 ?_;refine ZD0 (kd_ b5) ?_;refine Z0 ?_;refine qf_ (by rfl) ?_;refine Z0 ?_;obtain rfl := Zi H6;exact ZE0
def zi_ (n : Nat) (a : GGrant) (b : GGrant) : Option Int :=
 (qA_ n a.role b.role).bind fun t9 =>
 (qA_ n a.op b.op).bind fun t14 =>
 (qA_ n a.obj b.obj).bind fun t19 =>
 (kc_ n [t9, t14, t19]).bind fun t21 =>
 some t21
theorem kL_ {n : Nat} {a : GGrant} {b : GGrant} {r : Int} (H : zi_ n a b = some r) : PureOK Tryz.prog 64 [D.ag (eGGrant a), D.ag (eGGrant b)] (D.v (.int .i64 r)) true := by
 unfold zi_ at H;refine ZP qo_ fol (rs := #[.tmp 4]) Tryz.func64 ?_;refine ZT 1 ?_;obtain ⟨t9, b1, H2⟩ := zbi H;refine Z0 ?_;refine ZD0 (qK_ b1) ?_;obtain ⟨t14, b3, H4⟩ := zbi H2;refine Z0 ?_;refine ZD0 (qK_ b3) ?_;obtain ⟨t19, b5, H6⟩ := zbi H4;refine Z0 ?_;refine ZD0 (qK_ b5) ?_;obtain ⟨t21, b7, H8⟩ := zbi H6;refine Z0 ?_;refine ZD0 (kd_ b7) ?_;refine Z0 ?_;refine qf_ (by rfl) ?_;refine Z0 ?_
 obtain rfl := Zi H8;exact ZE0
end Go.Proofs.YtkkhgdmmbhpckaaGreat.Ab
