/-
 Functions, read off the code.
-/
import Derived.Test.YtjkdbakgnnhdnaaGreatSgs
namespace Go.Proofs.YtjkdbakgnnhdnaaGreat.Ab
open Go.RowKit
def cmp_isNaN (n : Nat) (x : Int) : Option Bool :=
 some (x != x)
theorem cmp_isNaN_ok {n : Nat} {x : Int} {r : Bool} (H : cmp_isNaN n x = some r) : PureOK Tryz.prog 61 [D.v (.int .i64 x)] (D.v (.bool r)) true := by
 unfold cmp_isNaN at H
 refine ZP tab_ok fol (rs := #[.tmp 2]) Tryz.func61 ?_
 refine ZT 1 ?_
 refine Z0 ?_
 obtain rfl := Zi H
 exact ZE0
def cmp_Compare (n : Nat) (x : Int) (y : Int) : Option Int :=
 (cmp_isNaN n x).bind fun t8 =>
 (cmp_isNaN n y).bind fun t10 =>
 (if t8 then
  (if t10 then
   some 0
  else
   some (-1))
 else
  (if t10 then
   some 1
  else
   (if (decide (x < y)) then
    some (-1)
   else
    (if (decide (y < x)) then
     some 1
    else
     some 0))))
theorem cmp_Compare_ok {n : Nat} {x : Int} {y : Int} {r : Int} (H : cmp_Compare n x y = some r) : PureOK Tryz.prog 45 [D.v (.int .i64 x), D.v (.int .i64 y)] (D.v (.int .i64 r)) true := by
 unfold cmp_Compare at H
 refine ZP tab_ok fol (rs := #[.tmp 4]) Tryz.func45 ?_
 refine ZT 1 ?_
 obtain ⟨t8, b1, H2⟩ := zbi H
 refine Z0 ?_
 refine ZC0 (cmp_isNaN_ok b1) ?_
 obtain ⟨t10, b3, H4⟩ := zbi H2
 refine Z0 ?_
 refine ZC0 (cmp_isNaN_ok b3) ?_
 refine Z0 ?_
 rcases zit H4 with ⟨c5, H6⟩ | ⟨c5, H6⟩
 ·refine Z1 c5 ?_
  rcases zit H6 with ⟨c7, H8⟩ | ⟨c7, H8⟩
  ·refine Z1 (Y2 c5 c7) ?_
   obtain rfl := Zi H8
   exact ZE0
  ·refine Z1 (Y2 c5 c7) ?_
   obtain rfl := Zi H8
   exact ZE0
 ·refine Z1 c5 ?_
  rcases zit H6 with ⟨c9, H10⟩ | ⟨c9, H10⟩
  ·refine Z1 (Y2 c5 c9) ?_
   obtain rfl := Zi H10
   exact ZE0
  ·refine Z1 (Y2 c5 c9) ?_
   rcases zit H10 with ⟨c11, H12⟩ | ⟨c11, H12⟩
   ·refine Z1 (Y3 c5 c9 c11) ?_
    obtain rfl := Zi H12
    exact ZE0
   ·refine Z1 (Y3 c5 c9 c11) ?_
    rcases zit H12 with ⟨c13, H14⟩ | ⟨c13, H14⟩
    ·refine Z1 (Y4 c5 c9 c11 c13) ?_
     obtain rfl := Zi H14
     exact ZE0
    ·refine Z1 (Y4 c5 c9 c11 c13) ?_
     obtain rfl := Zi H14
     exact ZE0
end Go.Proofs.YtjkdbakgnnhdnaaGreat.Ab
