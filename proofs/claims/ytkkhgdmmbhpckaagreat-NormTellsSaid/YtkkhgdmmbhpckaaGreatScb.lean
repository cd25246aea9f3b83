/-
 Functions, read off the code.
-/
import Derived.Test.YtkkhgdmmbhpckaaGreatSca
namespace Go.Proofs.YtkkhgdmmbhpckaaGreat.Ab
open Go.RowKit
def jv_ (n : Nat) (a : List ByteArray) (b : List ByteArray) : Nat → Int → Option ((Unit) ⊕ Bool)
 | 0, _ => none
 | c + 1, i =>
  (if (decide (i < (a.length : Int))) then
   (idx a i).bind fun x3 =>
   (idx b i).bind fun x4 =>
   (if (x3.toList == x4.toList) then
    jv_ n a b c (IntKind.i64.wrap (i + 1))
   else
    some (.inr false))
  else
   some (.inl ()))
def qJ_ (n : Nat) (a : List ByteArray) (b : List ByteArray) : Option Bool :=
 (if ((a.length : Int) != (b.length : Int)) then
  some false
 else
  (
   jv_ n a b n 0 : Option ((Unit) ⊕ Bool)).bind fun
   | .inl _ =>
    some true
   | .inr r => some r)
theorem jX_ {n : Nat} {a : List ByteArray} {b : List ByteArray} {r : Bool} (H : qJ_ n a b = some r) : PureOK Tryz.prog 21 [D.sl (List.map eS a), D.sl (List.map eS b)] (D.v (.bool r)) true := by
 unfold qJ_ at H;refine ZP qo_ fol (rs := #[.tmp 4]) Tryz.func21 ?_;refine zsq (ZT 1 ?_);refine Z0 ?_;refine zsq (ZT 1 ?_);refine Z0 ?_;rcases zit H with ⟨c1, H2⟩ | ⟨c1, H2⟩
 ·refine Z1 c1 ?_
  obtain rfl := Zi H2;exact ZE0
 ·refine Z1 c1 ?_
  refine zsq (zsq ?_);refine ZT 1 ?_;refine Z1 c1 ?_;obtain ⟨e_, E3, H4⟩ := zbi H2;refine zjn (α := { y : Unit // e_ = .inl y }) (fun | ⟨_, _⟩ => ⟨noFr, noHp, 0⟩) ?_ ?_
  ·refine zbk ?_
   refine zlp (α := { q : Nat × Int // jv_ n a b q.1 q.2 = some e_ }) (fun | ⟨⟨c, i⟩, _⟩ => ⟨upd 0 (.d (.sl (List.map eS a)) true) (upd 1 (.d (.sl (List.map eS b)) true) (upd 5 (.v (.int .i64 i)) noFr)), noHp, 0⟩) (fun q => q.1.1) ⟨(n, 0), E3⟩ ?_ ?_
   ·exact ZR []
   ·rintro ⟨⟨c, i⟩, L5⟩
    rcases c with _ | c
    ·exact Zx L5
    ·unfold jv_ at L5
     try dsimp only at L5
     refine ZT 1 ?_;refine Z0 ?_;rcases zit L5 with ⟨c22, H23⟩ | ⟨c22, H23⟩
     ·obtain ⟨x3, b24, H25⟩ := zbi H23
      obtain ⟨h26, h27⟩ := zix b24;try simp only [Int.reduceToNat, Int.toNat_natCast] at h27
      have h28 := qi_ eS h27;obtain ⟨x4, b30, H31⟩ := zbi H25;obtain ⟨h32, h33⟩ := zix b30;try simp only [Int.reduceToNat, Int.toNat_natCast] at h33
      have h34 := qi_ eS h33;refine Z1 (Y5 c22 (zno .i64 h26) h28 (zno .i64 h32) h34) ?_;refine qf_ (by rfl) ?_;refine Z1 (Y5 c22 (zno .i64 h26) h28 (zno .i64 h32) h34) ?_;rcases zit H31 with ⟨c36, H37⟩ | ⟨c36, H37⟩
      ·refine Z1 (Y6 c22 (zno .i64 h26) h28 (zno .i64 h32) h34 c36) ?_
       exact ⟨⟨(c, (IntKind.i64.wrap (i + 1))), H37⟩, ZR [], Nat.lt_succ_self _⟩
      ·refine Z1 (Y6 c22 (zno .i64 h26) h28 (zno .i64 h32) h34 c36) ?_
       obtain rfl := Zi H37;obtain rfl := Zi H4;exact ZE0
     ·refine Z1 c22 ?_
      obtain rfl := Zi H23;exact ⟨⟨(), rfl⟩, ZR []⟩
  ·rintro ⟨_, he38⟩
   obtain rfl := he38.symm;try dsimp only at H4
   refine ZT 1 ?_;refine Z0 ?_;obtain rfl := Zi H4;exact ZE0
end Go.Proofs.YtkkhgdmmbhpckaaGreat.Ab
