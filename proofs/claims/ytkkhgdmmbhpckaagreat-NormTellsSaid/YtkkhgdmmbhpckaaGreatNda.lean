/-
 Functions, read off the code.
-/
import Derived.Test.YtkkhgdmmbhpckaaGreatNca
namespace Go.Proofs.YtkkhgdmmbhpckaaGreat.Ab
open Go.RowKit
def xf_ (_ : Nat) (_ : ByteArray) : Option Bool :=
 some false
theorem zQ_ {n : Nat} {x : ByteArray} {r : Bool} (H : xf_ n x = some r) : PureOK Tryz.prog 138 [D.v (.string x)] (D.v (.bool r)) true := by
 unfold xf_ at H;refine ZP qo_ fol (rs := #[.tmp 2]) Tryz.func138 ?_;refine ZT 1 ?_;refine Z0 ?_;obtain rfl := Zi H;exact ZE0
def jC_ (n : Nat) (x : ByteArray) (y : ByteArray) : Option Int :=
 (xf_ n x).bind fun t8 =>
 (xf_ n y).bind fun t10 =>
 (if t8 then
  (if t10 then
   some 0
  else
   some (-1))
 else
  (if t10 then
   some 1
  else
   (if (Op.bytesLess x.toList y.toList) then
    some (-1)
   else
    (if (Op.bytesLess x.toList y.toList || x.toList == y.toList) then
     some 0
    else
     some 1))))
theorem wb_ {n : Nat} {x : ByteArray} {y : ByteArray} {r : Int} (H : jC_ n x y = some r) : PureOK Tryz.prog 89 [D.v (.string x), D.v (.string y)] (D.v (.int .i64 r)) true := by
 unfold jC_ at H;refine ZP qo_ fol (rs := #[.tmp 4]) Tryz.func89 ?_;refine ZT 1 ?_;obtain ⟨t8, b1, H2⟩ := zbi H;refine Z0 ?_;refine ZC0 (zQ_ b1) ?_;obtain ⟨t10, b3, H4⟩ := zbi H2;refine Z0 ?_;refine ZC0 (zQ_ b3) ?_;refine Z0 ?_;rcases zit H4 with ⟨c5, H6⟩ | ⟨c5, H6⟩
 ·refine Z1 c5 ?_
  rcases zit H6 with ⟨c7, H8⟩ | ⟨c7, H8⟩
  ·refine Z1 (Y2 c5 c7) ?_
   obtain rfl := Zi H8;exact ZE0
  ·refine Z1 (Y2 c5 c7) ?_
   obtain rfl := Zi H8;exact ZE0
 ·refine Z1 c5 ?_
  rcases zit H6 with ⟨c9, H10⟩ | ⟨c9, H10⟩
  ·refine Z1 (Y2 c5 c9) ?_
   obtain rfl := Zi H10;exact ZE0
  ·refine Z1 (Y2 c5 c9) ?_
   rcases zit H10 with ⟨c11, H12⟩ | ⟨c11, H12⟩
   ·refine Z1 (Y3 c5 c9 c11) ?_
    obtain rfl := Zi H12;exact ZE0
   ·refine Z1 (Y3 c5 c9 c11) ?_
    rcases zit H12 with ⟨c13, H14⟩ | ⟨c13, H14⟩
    ·try rw [c11, Bool.false_or] at c13
     refine Z1 (Y4 c5 c9 c11 c13) ?_;obtain rfl := Zi H14;exact ZE0
    ·try rw [c11, Bool.false_or] at c13
     refine Z1 (Y4 c5 c9 c11 c13) ?_;obtain rfl := Zi H14;exact ZE0
def qE_ (n : Nat) (s1 : List ByteArray) (s2 : List ByteArray) : Nat → Int → Option ((Unit) ⊕ Int)
 | 0, _ => none
 | c + 1, t11 =>
  (if (decide (t11 < (s1.length : Int))) then
   (idx s1 t11).bind fun x3 =>
   (if (decide ((s2.length : Int) ≤ t11)) then
    some (.inr 1)
   else
    (idx s2 t11).bind fun x4 =>
    (jC_ n x3 x4).bind fun t262 =>
    (if (t262 != 0) then
     some (.inr t262)
    else
     qE_ n s1 s2 c (IntKind.i64.wrap (t11 + 1))))
  else
   some (.inl ()))
def qS_ (n : Nat) (s1 : List ByteArray) (s2 : List ByteArray) : Option Int :=
 (
  qE_ n s1 s2 n 0 : Option ((Unit) ⊕ Int)).bind fun
  | .inl _ =>
   (if (decide ((s1.length : Int) < (s2.length : Int))) then
    some (-1)
   else
    some 0)
  | .inr r => some r
theorem xP_ {n : Nat} {s1 : List ByteArray} {s2 : List ByteArray} {r : Int} (H : qS_ n s1 s2 = some r) : PureOK Tryz.prog 71 [D.sl (List.map eS s1), D.sl (List.map eS s2)] (D.v (.int .i64 r)) true := by
 unfold qS_ at H;refine ZP qo_ fol (rs := #[.tmp 4]) Tryz.func71 ?_;refine zsq (ZT 1 ?_);refine Z0 ?_;refine zsq (zsq ?_);refine ZT 1 ?_;refine Z0 ?_;obtain ⟨e_, E1, H2⟩ := zbi H;refine zjn (α := { y : Unit // e_ = .inl y }) (fun | ⟨_, _⟩ => ⟨upd 0 (.d (.sl (List.map eS s1)) true) (upd 1 (.d (.sl (List.map eS s2)) true) noFr), noHp, 0⟩) ?_ ?_
 ·refine zbk ?_
  refine zlp (α := { q : Nat × Int // qE_ n s1 s2 q.1 q.2 = some e_ }) (fun | ⟨⟨c, t11⟩, _⟩ => ⟨upd 0 (.d (.sl (List.map eS s1)) true) (upd 1 (.d (.sl (List.map eS s2)) true) (upd 9 (.d (.sl (List.map eS s1)) true) (upd 10 (.v (.int .i64 (s1.length : Int))) (upd 11 (.v (.int .i64 t11)) noFr)))), noHp, 0⟩) (fun q => q.1.1) ⟨(n, 0), E1⟩ ?_ ?_
  ·exact ZR []
  ·rintro ⟨⟨c, t11⟩, L3⟩
   rcases c with _ | c
   ·exact Zx L3
   ·unfold qE_ at L3
    try dsimp only at L3
    refine ZT 1 ?_;refine Z0 ?_;rcases zit L3 with ⟨c24, H25⟩ | ⟨c24, H25⟩
    ·obtain ⟨x3, b26, H27⟩ := zbi H25
     obtain ⟨h28, h29⟩ := zix b26;try simp only [Int.reduceToNat, Int.toNat_natCast] at h29
     have h30 := qi_ eS h29;refine Z1 (Y3 c24 (zno .i64 h28) h30) ?_;rcases zit H27 with ⟨c32, H33⟩ | ⟨c32, H33⟩
     ·refine Z1 (Y4 c24 (zno .i64 h28) h30 c32) ?_
      obtain rfl := Zi H33;obtain rfl := Zi H2;exact ZE0
     ·obtain ⟨x4, b34, H35⟩ := zbi H33
      obtain ⟨h36, h37⟩ := zix b34;try simp only [Int.reduceToNat, Int.toNat_natCast] at h37
      have h38 := qi_ eS h37;obtain ⟨t262, b40, H41⟩ := zbi H35;refine Z1 (Y6 c24 (zno .i64 h28) h30 c32 (zno .i64 h36) h38) ?_;refine ZC0 (wb_ b40) ?_;refine Z1 (Y6 c24 (zno .i64 h28) h30 c32 (zno .i64 h36) h38) ?_;rcases zit H41 with ⟨c42, H43⟩ | ⟨c42, H43⟩
      ·refine Z1 (Y2 (Y6 c24 (zno .i64 h28) h30 c32 (zno .i64 h36) h38) c42) ?_
       obtain rfl := Zi H43;obtain rfl := Zi H2;exact ZE0
      ·refine Z1 (Y2 (Y6 c24 (zno .i64 h28) h30 c32 (zno .i64 h36) h38) c42) ?_
       exact ⟨⟨(c, (IntKind.i64.wrap (t11 + 1))), H43⟩, ZR [], Nat.lt_succ_self _⟩
    ·refine Z1 c24 ?_
     obtain rfl := Zi H25;exact ⟨⟨(), rfl⟩, ZR []⟩
 ·rintro ⟨_, he46⟩
  obtain rfl := he46.symm;try dsimp only at H2
  refine ZT 1 ?_;refine Z0 ?_;rcases zit H2 with ⟨c44, H45⟩ | ⟨c44, H45⟩
  ·refine Z1 c44 ?_
   obtain rfl := Zi H45;exact ZE0
  ·refine Z1 c44 ?_
   obtain rfl := Zi H45;exact ZE0
def wc_ (_ : Nat) (x : Int) : Option Bool :=
 some (x != x)
theorem k6_ {n : Nat} {x : Int} {r : Bool} (H : wc_ n x = some r) : PureOK Tryz.prog 129 [D.v (.int .i64 x)] (D.v (.bool r)) true := by
 unfold wc_ at H;refine ZP qo_ fol (rs := #[.tmp 2]) Tryz.func129 ?_;refine ZT 1 ?_;refine Z0 ?_;obtain rfl := Zi H;exact ZE0
def zR_ (n : Nat) (x : Int) (y : Int) : Option Int :=
 (wc_ n x).bind fun t8 =>
 (wc_ n y).bind fun t10 =>
 (if t8 then
  (if t10 then
   some 0
  else
   some (-1))
 else
  (if t10 then
   some 1
  else
   (if (decide (x < y)) then
    some (-1)
   else
    (if (decide (y < x)) then
     some 1
    else
     some 0))))
theorem uH_ {n : Nat} {x : Int} {y : Int} {r : Int} (H : zR_ n x y = some r) : PureOK Tryz.prog 87 [D.v (.int .i64 x), D.v (.int .i64 y)] (D.v (.int .i64 r)) true := by
 unfold zR_ at H;refine ZP qo_ fol (rs := #[.tmp 4]) Tryz.func87 ?_;refine ZT 1 ?_;obtain ⟨t8, b1, H2⟩ := zbi H;refine Z0 ?_;refine ZC0 (k6_ b1) ?_;obtain ⟨t10, b3, H4⟩ := zbi H2;refine Z0 ?_;refine ZC0 (k6_ b3) ?_;refine Z0 ?_;rcases zit H4 with ⟨c5, H6⟩ | ⟨c5, H6⟩
 ·refine Z1 c5 ?_
  rcases zit H6 with ⟨c7, H8⟩ | ⟨c7, H8⟩
  ·refine Z1 (Y2 c5 c7) ?_
   obtain rfl := Zi H8;exact ZE0
  ·refine Z1 (Y2 c5 c7) ?_
   obtain rfl := Zi H8;exact ZE0
 ·refine Z1 c5 ?_
  rcases zit H6 with ⟨c9, H10⟩ | ⟨c9, H10⟩
  ·refine Z1 (Y2 c5 c9) ?_
   obtain rfl := Zi H10;exact ZE0
  ·refine Z1 (Y2 c5 c9) ?_
   rcases zit H10 with ⟨c11, H12⟩ | ⟨c11, H12⟩
   ·refine Z1 (Y3 c5 c9 c11) ?_
    obtain rfl := Zi H12;exact ZE0
   ·refine Z1 (Y3 c5 c9 c11) ?_
    rcases zit H12 with ⟨c13, H14⟩ | ⟨c13, H14⟩
    ·try rw [c11, Bool.false_or] at c13
     refine Z1 (Y4 c5 c9 c11 c13) ?_;obtain rfl := Zi H14;exact ZE0
    ·try rw [c11, Bool.false_or] at c13
     refine Z1 (Y4 c5 c9 c11 c13) ?_;obtain rfl := Zi H14;exact ZE0
def zs_ (n : Nat) (a : GSod) (b : GSod) : Option Int :=
 (qA_ n a.name b.name).bind fun t9 =>
 (zR_ n a.n_ b.n_).bind fun t14 =>
 (qS_ n a.roles b.roles).bind fun t19 =>
 (kc_ n [t9, t14, t19]).bind fun t21 =>
 some t21
theorem wK_ {n : Nat} {a : GSod} {b : GSod} {r : Int} (H : zs_ n a b = some r) : PureOK Tryz.prog 67 [D.ag (eGSod a), D.ag (eGSod b)] (D.v (.int .i64 r)) true := by
 unfold zs_ at H;refine ZP qo_ fol (rs := #[.tmp 4]) Tryz.func67 ?_;refine ZT 1 ?_;obtain ⟨t9, b1, H2⟩ := zbi H;refine Z0 ?_;refine ZD0 (qK_ b1) ?_;obtain ⟨t14, b3, H4⟩ := zbi H2;refine Z0 ?_;refine ZD0 (uH_ b3) ?_;obtain ⟨t19, b5, H6⟩ := zbi H4;refine Z0 ?_;refine ZD0 (xP_ b5) ?_;obtain ⟨t21, b7, H8⟩ := zbi H6;refine Z0 ?_;refine ZD0 (kd_ b7) ?_;refine Z0 ?_;refine qf_ (by rfl) ?_;refine Z0 ?_
 obtain rfl := Zi H8;exact ZE0
def zt_ (n : Nat) (a : GSession) (b : GSession) : Option Int :=
 (qA_ n a.name b.name).bind fun t9 =>
 (qA_ n a.user b.user).bind fun t14 =>
 (qS_ n a.roles b.roles).bind fun t19 =>
 (kc_ n [t9, t14, t19]).bind fun t21 =>
 some t21
theorem wL_ {n : Nat} {a : GSession} {b : GSession} {r : Int} (H : zt_ n a b = some r) : PureOK Tryz.prog 70 [D.ag (eGSession a), D.ag (eGSession b)] (D.v (.int .i64 r)) true := by
 unfold zt_ at H;refine ZP qo_ fol (rs := #[.tmp 4]) Tryz.func70 ?_;refine ZT 1 ?_;obtain ⟨t9, b1, H2⟩ := zbi H;refine Z0 ?_;refine ZD0 (qK_ b1) ?_;obtain ⟨t14, b3, H4⟩ := zbi H2;refine Z0 ?_;refine ZD0 (qK_ b3) ?_;obtain ⟨t19, b5, H6⟩ := zbi H4;refine Z0 ?_;refine ZD0 (xP_ b5) ?_;obtain ⟨t21, b7, H8⟩ := zbi H6;refine Z0 ?_;refine ZD0 (kd_ b7) ?_;refine Z0 ?_;refine qf_ (by rfl) ?_;refine Z0 ?_
 obtain rfl := Zi H8;exact ZE0
def qy_ (n : Nat) (s1 : List ByteArray) (s2 : List ByteArray) : Nat → Int → Option ((Unit) ⊕ Bool)
 | 0, _ => none
 | c + 1, t13 =>
  (if (decide (t13 < (s1.length : Int))) then
   (idx s1 t13).bind fun x3 =>
   (idx s2 t13).bind fun x4 =>
   (if (x3.toList == x4.toList) then
    qy_ n s1 s2 c (IntKind.i64.wrap (t13 + 1))
   else
    some (.inr false))
  else
   some (.inl ()))
def qv_ (n : Nat) (s1 : List ByteArray) (s2 : List ByteArray) : Option Bool :=
 (if ((s1.length : Int) != (s2.length : Int)) then
  some false
 else
  (
   qy_ n s1 s2 n 0 : Option ((Unit) ⊕ Bool)).bind fun
   | .inl _ =>
    some true
   | .inr r => some r)
theorem jy_ {n : Nat} {s1 : List ByteArray} {s2 : List ByteArray} {r : Bool} (H : qv_ n s1 s2 = some r) : PureOK Tryz.prog 40 [D.sl (List.map eS s1), D.sl (List.map eS s2)] (D.v (.bool r)) true := by
 unfold qv_ at H;refine ZP qo_ fol (rs := #[.tmp 4]) Tryz.func40 ?_;refine zsq (ZT 1 ?_);refine Z0 ?_;refine zsq (ZT 1 ?_);refine Z0 ?_;rcases zit H with ⟨c1, H2⟩ | ⟨c1, H2⟩
 ·refine Z1 c1 ?_
  obtain rfl := Zi H2;exact ZE0
 ·refine Z1 c1 ?_
  refine zsq (zsq ?_);refine ZT 1 ?_;refine Z1 c1 ?_;obtain ⟨e_, E3, H4⟩ := zbi H2;refine zjn (α := { y : Unit // e_ = .inl y }) (fun | ⟨_, _⟩ => ⟨noFr, noHp, 0⟩) ?_ ?_
  ·refine zbk ?_
   refine zlp (α := { q : Nat × Int // qy_ n s1 s2 q.1 q.2 = some e_ }) (fun | ⟨⟨c, t13⟩, _⟩ => ⟨upd 0 (.d (.sl (List.map eS s1)) true) (upd 1 (.d (.sl (List.map eS s2)) true) (upd 12 (.v (.int .i64 (s1.length : Int))) (upd 13 (.v (.int .i64 t13)) noFr))), noHp, 0⟩) (fun q => q.1.1) ⟨(n, 0), E3⟩ ?_ ?_
   ·exact ZR []
   ·rintro ⟨⟨c, t13⟩, L5⟩
    rcases c with _ | c
    ·exact Zx L5
    ·unfold qy_ at L5
     try dsimp only at L5
     refine ZT 1 ?_;refine Z0 ?_;rcases zit L5 with ⟨c22, H23⟩ | ⟨c22, H23⟩
     ·obtain ⟨x3, b24, H25⟩ := zbi H23
      obtain ⟨h26, h27⟩ := zix b24;try simp only [Int.reduceToNat, Int.toNat_natCast] at h27
      have h28 := qi_ eS h27;obtain ⟨x4, b30, H31⟩ := zbi H25;obtain ⟨h32, h33⟩ := zix b30;try simp only [Int.reduceToNat, Int.toNat_natCast] at h33
      have h34 := qi_ eS h33;refine Z1 (Y5 c22 (zno .i64 h26) h28 (zno .i64 h32) h34) ?_;refine qf_ (by rfl) ?_;refine Z1 (Y5 c22 (zno .i64 h26) h28 (zno .i64 h32) h34) ?_;rcases zit H31 with ⟨c36, H37⟩ | ⟨c36, H37⟩
      ·refine Z1 (Y6 c22 (zno .i64 h26) h28 (zno .i64 h32) h34 c36) ?_
       exact ⟨⟨(c, (IntKind.i64.wrap (t13 + 1))), H37⟩, ZR [], Nat.lt_succ_self _⟩
      ·refine Z1 (Y6 c22 (zno .i64 h26) h28 (zno .i64 h32) h34 c36) ?_
       obtain rfl := Zi H37;obtain rfl := Zi H4;exact ZE0
     ·refine Z1 c22 ?_
      obtain rfl := Zi H23;exact ⟨⟨(), rfl⟩, ZR []⟩
  ·rintro ⟨_, he38⟩
   obtain rfl := he38.symm;try dsimp only at H4
   refine ZT 1 ?_;refine Z0 ?_;obtain rfl := Zi H4;exact ZE0
def xu_ (n : Nat) (a : GSod) (b : GSod) : Option Bool :=
 (if (a.name.toList == b.name.toList) then
  (if (a.n_ == b.n_) then
   (qv_ n a.roles b.roles).bind fun t22 =>
   some t22
  else
   some false)
 else
  some false)
theorem wd_ {n : Nat} {a : GSod} {b : GSod} {r : Bool} (H : xu_ n a b = some r) : PureOK Tryz.prog 44 [D.ag (eGSod a), D.ag (eGSod b)] (D.v (.bool r)) true := by
 unfold xu_ at H;refine ZP qo_ fol (rs := #[.tmp 4]) Tryz.func44 ?_;refine ZT 1 ?_;refine Z0 ?_;rcases zit H with ⟨c1, H2⟩ | ⟨c1, H2⟩
 ·refine Z1 c1 ?_
  rcases zit H2 with ⟨c3, H4⟩ | ⟨c3, H4⟩
  ·obtain ⟨t22, b5, H6⟩ := zbi H4
   refine Z1 (Y2 c1 c3) ?_;refine ZC0 (jy_ b5) ?_;refine Z1 (Y2 c1 c3) ?_;obtain rfl := Zi H6;exact ZE0
  ·refine Z1 (Y2 c1 c3) ?_
   obtain rfl := Zi H4;exact ZE0
 ·refine Z1 c1 ?_
  obtain rfl := Zi H2;exact ZE0
def je_ (n : Nat) (a : GSession) (b : GSession) : Option Bool :=
 (if (a.name.toList == b.name.toList) then
  (if (a.user.toList == b.user.toList) then
   (qv_ n a.roles b.roles).bind fun t22 =>
   some t22
  else
   some false)
 else
  some false)
theorem zS_ {n : Nat} {a : GSession} {b : GSession} {r : Bool} (H : je_ n a b = some r) : PureOK Tryz.prog 46 [D.ag (eGSession a), D.ag (eGSession b)] (D.v (.bool r)) true := by
 unfold je_ at H;refine ZP qo_ fol (rs := #[.tmp 4]) Tryz.func46 ?_;refine ZT 1 ?_;refine Z0 ?_;rcases zit H with ⟨c1, H2⟩ | ⟨c1, H2⟩
 ·refine Z1 c1 ?_
  rcases zit H2 with ⟨c3, H4⟩ | ⟨c3, H4⟩
  ·obtain ⟨t22, b5, H6⟩ := zbi H4
   refine Z1 (Y2 c1 c3) ?_;refine ZC0 (jy_ b5) ?_;refine Z1 (Y2 c1 c3) ?_;obtain rfl := Zi H6;exact ZE0
  ·refine Z1 (Y2 c1 c3) ?_
   obtain rfl := Zi H4;exact ZE0
 ·refine Z1 c1 ?_
  obtain rfl := Zi H2;exact ZE0
end Go.Proofs.YtkkhgdmmbhpckaaGreat.Ab
