/-
 Functions, read off the code.
-/
import Derived.Test.YtnmkbmefohakmaaGreatRo
namespace Go.Proofs.YtnmkbmefohakmaaGreat.Ab
open Go.RowKit
def v6_ (_:Nat)(c2:Int):Option Bool:=
 (if (decide (97<=c2)) then
  (if (decide (c2<=122)) then
   some true
  else
   (if (decide (48<=c2)) then
    some (decide (c2<=57))
   else
    some false))
 else
  (if (decide (48<=c2)) then
   some (decide (c2<=57))
  else
   some false))
theorem kc_ {n:Nat}{c2:Int}{r:Bool}(H:v6_ n c2=some r):PureOK Tryz.prog 142 [D.v (.int .u8 c2)] (D.v (.bool r)) true:=by
 unfold v6_ at H;refine ZP qf_ fol (rs:= #[.tmp 2]) Tryz.func142 ?_;refine ZT 1 ?_;refine Z0 ?_;rcases zit H with⟨c1,H2⟩ |⟨c1,H2⟩
 ·refine Z1 c1 ?_
  rcases zit H2 with⟨c3,H4⟩ |⟨c3,H4⟩
  ·refine Z1 (Y2 c1 c3) ?_
   obtain rfl:=Zi H4;exact ZE0
  ·refine Z1 (Y2 c1 c3) ?_
   rcases zit H4 with⟨c5,H6⟩ |⟨c5,H6⟩
   ·refine Z1 (Y3 c1 c3 c5) ?_
    obtain rfl:=Zi H6;exact ZE0
   ·refine Z1 (Y3 c1 c3 c5) ?_
    obtain rfl:=Zi H6;exact ZE0
 ·refine Z1 c1 ?_
  rcases zit H2 with⟨c7,H8⟩ |⟨c7,H8⟩
  ·refine Z1 (Y2 c1 c7) ?_
   obtain rfl:=Zi H8;exact ZE0
  ·refine Z1 (Y2 c1 c7) ?_
   obtain rfl:=Zi H8;exact ZE0
def v7_ (n:Nat)(c2:Int):Option Bool:=
 (v6_ n c2).bind fun t4=>
 (if t4 then
  some true
 else
  (if (c2==95) then
   some true
  else
   (if (c2==45) then
    some true
   else
    some (c2==46))))
theorem kd_ {n:Nat}{c2:Int}{r:Bool}(H:v7_ n c2=some r):PureOK Tryz.prog 143 [D.v (.int .u8 c2)] (D.v (.bool r)) true:=by
 unfold v7_ at H;refine ZP qf_ fol (rs:= #[.tmp 2]) Tryz.func143 ?_;refine ZT 1 ?_;obtain⟨t4,b1,H2⟩:=zbi H;refine Z0 ?_;refine ZC0 (kc_ b1) ?_;refine Z0 ?_;rcases zit H2 with⟨c3,H4⟩ |⟨c3,H4⟩
 ·refine Z1 c3 ?_
  obtain rfl:=Zi H4;exact ZE0
 ·refine Z1 c3 ?_
  rcases zit H4 with⟨c5,H6⟩ |⟨c5,H6⟩
  ·refine Z1 (Y2 c3 c5) ?_
   obtain rfl:=Zi H6;exact ZE0
  ·refine Z1 (Y2 c3 c5) ?_
   rcases zit H6 with⟨c7,H8⟩ |⟨c7,H8⟩
   ·refine Z1 (Y3 c3 c5 c7) ?_
    obtain rfl:=Zi H8;exact ZE0
   ·refine Z1 (Y3 c3 c5 c7) ?_
    obtain rfl:=Zi H8;exact ZE0
def zI_ (n:Nat)(s:ByteArray):Nat->Int->Option ((Unit) ⊕ Bool)
 |0,_=>none
 |c+1,t19=>
  (if (decide (t19<(s.size:Int))) then
   (bidx s t19).bind fun ch3=>
   (v7_ n ch3).bind fun t252=>
   (if t252 then
    zI_ n s c (IntKind.i64.wrap (t19+1))
   else
    some (.inr false))
  else
   some (.inl ()))
def zt_ (n:Nat)(s:ByteArray):Option Bool:=
 (
  (if (s.toList==({ data:= #[] }:ByteArray).toList) then
   some true
  else
   (if (decide (30<(s.size:Int))) then
    some true
   else
    (bidx s 0).bind fun ch=>
    (v6_ n ch).bind fun t14=>
    some (!t14))):Option (Bool)).bind fun t16=>
 (if t16 then
  some false
 else
  (
   zI_ n s n 0:Option ((Unit) ⊕ Bool)).bind fun
   | .inl _=>
    some true
   | .inr r=>some r)
theorem zJ_ {n:Nat}{s:ByteArray}{r:Bool}(H:zt_ n s=some r):PureOK Tryz.prog 115 [D.v (.string s)] (D.v (.bool r)) true:=by
 unfold zt_ at H;refine ZP qf_ fol (rs:= #[.tmp 2]) Tryz.func115 ?_;refine zsq (ZT 1 ?_);refine Z0 ?_;refine zsq (zsq ?_);obtain⟨e_,E1,H2⟩:=zbi H;refine zjn (α:={ y:Bool // e_=y }) (fun |⟨t16,_⟩=>⟨upd 0 (.v (.string s)) (upd 16 (.v (.bool t16)) noFr),noHp,0⟩) ?_ ?_
 ·refine ZT 1 ?_
  refine Z0 ?_;rcases zit E1 with⟨c3,H4⟩ |⟨c3,H4⟩
  ·refine Z1 c3 ?_
   obtain rfl:=Zi H4;exact⟨⟨true,rfl⟩,ZR []⟩
  ·refine Z1 c3 ?_
   rcases zit H4 with⟨c5,H6⟩ |⟨c5,H6⟩
   ·refine Z1 (Y2 c3 c5) ?_
    obtain rfl:=Zi H6;exact⟨⟨true,rfl⟩,ZR []⟩
   ·obtain⟨ch,b7,H8⟩:=zbi H6
    obtain⟨h9,by_,h10,h11⟩:=zbx b7;try simp only[Int.reduceToNat] at h10
    obtain⟨t14,b12,H13⟩:=zbi H8;refine Z1 (Y5 c3 c5 (zno .i64 h9) h10 h11.symm) ?_;refine ZC0 (kc_ b12) ?_;refine Z1 (Y5 c3 c5 (zno .i64 h9) h10 h11.symm) ?_;obtain rfl:=Zi H13;exact⟨⟨(!t14),rfl⟩,ZR []⟩
 ·rintro⟨t16,he42⟩
  obtain rfl:=he42.symm;try dsimp only at H2
  refine ZT 1 ?_;refine Z0 ?_;rcases zit H2 with⟨c14,H15⟩ |⟨c14,H15⟩
  ·refine Z1 c14 ?_
   obtain rfl:=Zi H15;exact ZE0
  ·refine Z1 c14 ?_
   refine zsq (zsq ?_);refine ZT 1 ?_;refine Z1 c14 ?_;obtain⟨e_2,E16,H17⟩:=zbi H15;refine zjn (α:={ y:Unit // e_2= .inl y }) (fun |⟨_,_⟩=>⟨noFr,noHp,0⟩) ?_ ?_
   ·refine zbk ?_
    refine zlp (α:={ q:Nat × Int // zI_ n s q.1 q.2=some e_2 }) (fun |⟨⟨c,t19⟩,_⟩=>⟨upd 0 (.v (.string s)) (upd 18 (.v (.int .i64 (s.size:Int))) (upd 19 (.v (.int .i64 t19)) noFr)),noHp,0⟩) (fun q=>q.1.1) ⟨(n,0),E16⟩ ?_ ?_
    ·exact ZR []
    ·rintro⟨⟨c,t19⟩,L18⟩
     rcases c with _ |c
     ·exact Zx L18
     ·unfold zI_ at L18
      try dsimp only at L18
      refine ZT 1 ?_;refine Z0 ?_;rcases zit L18 with⟨c30,H31⟩ |⟨c30,H31⟩
      ·obtain⟨ch3,b32,H33⟩:=zbi H31
       obtain⟨h34,by_3,h35,h36⟩:=zbx b32;try simp only[Int.reduceToNat,Int.toNat_natCast] at h35
       obtain⟨t252,b37,H38⟩:=zbi H33;refine Z1 (Y4 c30 (zno .i64 h34) h35 h36.symm) ?_;refine ZC0 (kd_ b37) ?_;refine Z1 (Y4 c30 (zno .i64 h34) h35 h36.symm) ?_;rcases zit H38 with⟨c39,H40⟩ |⟨c39,H40⟩
       ·refine Z1 (Y5 c30 (zno .i64 h34) h35 h36.symm c39) ?_
        exact⟨⟨(c,(IntKind.i64.wrap (t19+1))),H40⟩,ZR [],Nat.lt_succ_self _⟩
       ·refine Z1 (Y5 c30 (zno .i64 h34) h35 h36.symm c39) ?_
        obtain rfl:=Zi H40;obtain rfl:=Zi H17;exact ZE0
      ·refine Z1 c30 ?_
       obtain rfl:=Zi H31;exact⟨⟨(),rfl⟩,ZR []⟩
   ·rintro⟨_,he41⟩
    obtain rfl:=he41.symm;try dsimp only at H17
    refine ZT 1 ?_;refine Z0 ?_;obtain rfl:=Zi H17;exact ZE0
def xL_ (n:Nat)(s:ByteArray):Nat->Int->Option ((Unit) ⊕ Bool)
 |0,_=>none
 |c+1,t7=>
  (if (decide (t7<(s.size:Int))) then
   (bidx s t7).bind fun ch2=>
   (v7_ n ch2).bind fun t142=>
   (if t142 then
    xL_ n s c (IntKind.i64.wrap (t7+1))
   else
    (if (ch2 != 47) then
     (if (ch2 != 124) then
      (if (ch2 != 42) then
       some (.inr false)
      else
       xL_ n s c (IntKind.i64.wrap (t7+1)))
     else
      xL_ n s c (IntKind.i64.wrap (t7+1)))
    else
     xL_ n s c (IntKind.i64.wrap (t7+1))))
  else
   some (.inl ()))
def uA_ (n:Nat)(s:ByteArray):Option Bool:=
 (
  xL_ n s n 0:Option ((Unit) ⊕ Bool)).bind fun
  | .inl _=>
   (if (s.toList==({ data:= #[] }:ByteArray).toList) then
    some false
   else
    some (decide ((s.size:Int)<=250)))
  | .inr r=>some r
theorem gr_ {n:Nat}{s:ByteArray}{r:Bool}(H:uA_ n s=some r):PureOK Tryz.prog 116 [D.v (.string s)] (D.v (.bool r)) true:=by
 unfold uA_ at H;refine ZP qf_ fol (rs:= #[.tmp 2]) Tryz.func116 ?_;refine zsq (ZT 1 ?_);refine Z0 ?_;refine zsq (zsq ?_);refine ZT 1 ?_;refine Z0 ?_;obtain⟨e_,E1,H2⟩:=zbi H;refine zjn (α:={ y:Unit // e_= .inl y }) (fun |⟨_,_⟩=>⟨upd 0 (.v (.string s)) noFr,noHp,0⟩) ?_ ?_
 ·refine zbk ?_
  refine zlp (α:={ q:Nat × Int // xL_ n s q.1 q.2=some e_ }) (fun |⟨⟨c,t7⟩,_⟩=>⟨upd 0 (.v (.string s)) (upd 6 (.v (.int .i64 (s.size:Int))) (upd 7 (.v (.int .i64 t7)) noFr)),noHp,0⟩) (fun q=>q.1.1) ⟨(n,0),E1⟩ ?_ ?_
  ·exact ZR []
  ·rintro⟨⟨c,t7⟩,L3⟩
   rcases c with _ |c
   ·exact Zx L3
   ·unfold xL_ at L3
    try dsimp only at L3
    refine ZT 1 ?_;refine Z0 ?_;rcases zit L3 with⟨c21,H22⟩ |⟨c21,H22⟩
    ·obtain⟨ch2,b23,H24⟩:=zbi H22
     obtain⟨h25,by_2,h26,h27⟩:=zbx b23;try simp only[Int.reduceToNat,Int.toNat_natCast] at h26
     obtain⟨t142,b28,H29⟩:=zbi H24;refine Z1 (Y4 c21 (zno .i64 h25) h26 h27.symm) ?_;refine ZC0 (kd_ b28) ?_;refine Z1 (Y4 c21 (zno .i64 h25) h26 h27.symm) ?_;rcases zit H29 with⟨c30,H31⟩ |⟨c30,H31⟩
     ·refine Z1 (Y5 c21 (zno .i64 h25) h26 h27.symm c30) ?_
      exact⟨⟨(c,(IntKind.i64.wrap (t7+1))),H31⟩,ZR [],Nat.lt_succ_self _⟩
     ·refine Z1 (Y5 c21 (zno .i64 h25) h26 h27.symm c30) ?_
      rcases zit H31 with⟨c32,H33⟩ |⟨c32,H33⟩
      ·refine Z1 (Y6 c21 (zno .i64 h25) h26 h27.symm c30 c32) ?_
       rcases zit H33 with⟨c34,H35⟩ |⟨c34,H35⟩
       ·refine Z1 (Y2 (Y6 c21 (zno .i64 h25) h26 h27.symm c30 c32) c34) ?_
        rcases zit H35 with⟨c36,H37⟩ |⟨c36,H37⟩
        ·refine Z1 (Y2 (Y6 c21 (zno .i64 h25) h26 h27.symm c30 c32) (Y2 c34 c36)) ?_
         obtain rfl:=Zi H37;obtain rfl:=Zi H2;exact ZE0
        ·refine Z1 (Y2 (Y6 c21 (zno .i64 h25) h26 h27.symm c30 c32) (Y2 c34 c36)) ?_
         exact⟨⟨(c,(IntKind.i64.wrap (t7+1))),H37⟩,ZR [],Nat.lt_succ_self _⟩
       ·refine Z1 (Y2 (Y6 c21 (zno .i64 h25) h26 h27.symm c30 c32) c34) ?_
        exact⟨⟨(c,(IntKind.i64.wrap (t7+1))),H35⟩,ZR [],Nat.lt_succ_self _⟩
      ·refine Z1 (Y6 c21 (zno .i64 h25) h26 h27.symm c30 c32) ?_
       exact⟨⟨(c,(IntKind.i64.wrap (t7+1))),H33⟩,ZR [],Nat.lt_succ_self _⟩
    ·refine Z1 c21 ?_
     obtain rfl:=Zi H22;exact⟨⟨(),rfl⟩,ZR []⟩
 ·rintro⟨_,he40⟩
  obtain rfl:=he40.symm;try dsimp only at H2
  refine ZT 1 ?_;refine Z0 ?_;rcases zit H2 with⟨c38,H39⟩ |⟨c38,H39⟩
  ·refine Z1 c38 ?_
   obtain rfl:=Zi H39;exact ZE0
  ·refine Z1 c38 ?_
   obtain rfl:=Zi H39;exact ZE0
def x3_ (n:Nat)(t:GTuple):Option Bool:=
 (zt_ n t.obj.type_).bind fun t6=>
 (if t6 then
  (uA_ n t.obj.id_).bind fun t11=>
  (if t11 then
   (zt_ n t.rel).bind fun t16=>
   (if t16 then
    (zt_ n t.sub_.type_).bind fun t22=>
    (if t22 then
     (uA_ n t.sub_.id_).bind fun t28=>
     (if t28 then
      (if (t.sub_.rel.toList==({ data:= #[] }:ByteArray).toList) then
       some true
      else
       (zt_ n t.sub_.rel).bind fun t39=>
       some t39)
     else
      some false)
    else
     some false)
   else
    some false)
  else
   some false)
 else
  some false)
theorem mu_ {n:Nat}{t:GTuple}{r:Bool}(H:x3_ n t=some r):PureOK Tryz.prog 92 [D.ag (eGTuple t)] (D.v (.bool r)) true:=by
 unfold x3_ at H;refine ZP qf_ fol (rs:= #[.tmp 2]) Tryz.func92 ?_;refine ZT 1 ?_;obtain⟨t6,b1,H2⟩:=zbi H;refine Z0 ?_;refine ZC0 (zJ_ b1) ?_;refine Z0 ?_;rcases zit H2 with⟨c3,H4⟩ |⟨c3,H4⟩
 ·obtain⟨t11,b5,H6⟩:=zbi H4
  refine Z1 c3 ?_;refine ZC0 (gr_ b5) ?_;refine Z1 c3 ?_;rcases zit H6 with⟨c7,H8⟩ |⟨c7,H8⟩
  ·obtain⟨t16,b9,H10⟩:=zbi H8
   refine Z1 (Y2 c3 c7) ?_;refine ZC0 (zJ_ b9) ?_;refine Z1 (Y2 c3 c7) ?_;rcases zit H10 with⟨c11,H12⟩ |⟨c11,H12⟩
   ·obtain⟨t22,b13,H14⟩:=zbi H12
    refine Z1 (Y3 c3 c7 c11) ?_;refine ZC0 (zJ_ b13) ?_;refine Z1 (Y3 c3 c7 c11) ?_;rcases zit H14 with⟨c15,H16⟩ |⟨c15,H16⟩
    ·obtain⟨t28,b17,H18⟩:=zbi H16
     refine Z1 (Y4 c3 c7 c11 c15) ?_;refine ZC0 (gr_ b17) ?_;refine Z1 (Y4 c3 c7 c11 c15) ?_;rcases zit H18 with⟨c19,H20⟩ |⟨c19,H20⟩
     ·refine Z1 (Y5 c3 c7 c11 c15 c19) ?_
      rcases zit H20 with⟨c21,H22⟩ |⟨c21,H22⟩
      ·refine Z1 (Y6 c3 c7 c11 c15 c19 c21) ?_
       obtain rfl:=Zi H22;exact ZE0
      ·obtain⟨t39,b23,H24⟩:=zbi H22
       refine Z1 (Y6 c3 c7 c11 c15 c19 c21) ?_;refine ZC0 (zJ_ b23) ?_;refine Z1 (Y6 c3 c7 c11 c15 c19 c21) ?_;obtain rfl:=Zi H24;exact ZE0
     ·refine Z1 (Y5 c3 c7 c11 c15 c19) ?_
      obtain rfl:=Zi H20;exact ZE0
    ·refine Z1 (Y4 c3 c7 c11 c15) ?_
     obtain rfl:=Zi H16;exact ZE0
   ·refine Z1 (Y3 c3 c7 c11) ?_
    obtain rfl:=Zi H12;exact ZE0
  ·refine Z1 (Y2 c3 c7) ?_
   obtain rfl:=Zi H8;exact ZE0
 ·refine Z1 c3 ?_
  obtain rfl:=Zi H4;exact ZE0
def ji_ (n:Nat)(s:WellSchema)(t:GTuple):Option Bool:=
 (qq_ n s t.obj.type_ t.rel).bind fun t14=>
 (x3_ n t).bind fun t18=>
 (if t18 then
  (qO_ n t14.1.subs (⟨t.sub_.type_,ByteArray.empty,t.sub_.rel⟩:GSub)).bind fun t29=>
  some t29
 else
  some false)
theorem wB_ {n:Nat}{s:WellSchema}{t:GTuple}{r:Bool}(H:ji_ n s t=some r):PureOK Tryz.prog 63 [D.pt (eWellSchema s) 0,D.ag (eGTuple t)] (D.v (.bool r)) true:=by
 unfold ji_ at H;refine ZP qf_ fol (rs:= #[.tmp 4]) Tryz.func63 ?_;refine ZT 1 ?_;obtain⟨t14,b1,H2⟩:=zbi H;refine Z0 ?_;refine ZC0 (qB_ b1) ?_;obtain⟨t18,b3,H4⟩:=zbi H2;refine Z0 ?_;refine ZC0 (mu_ b3) ?_;refine Z0 ?_;rcases zit H4 with⟨c5,H6⟩ |⟨c5,H6⟩
 ·obtain⟨t29,b7,H8⟩:=zbi H6
  refine Z1 c5 ?_;refine ZC0 (xD_ b7) ?_;refine Z1 c5 ?_;obtain rfl:=Zi H8;exact ZE0
 ·refine Z1 c5 ?_
  obtain rfl:=Zi H6;exact ZE0
def xp_ (n:Nat)(t16:List GTuple):Nat->(List (GRef × (List GSub)) × List (ByteArray × (List ByteArray)) × List (GSub × (List GRef)) × List (ByteArray × (List ByteArray)) × Int)->Option (List (GRef × (List GSub)) × List (ByteArray × (List ByteArray)) × List (GSub × (List GRef)) × List (ByteArray × (List ByteArray)))
 |0,_=>none
 |c+1,(t302,t312,t322,t332,t18)=>
  (if (decide (t18<(t16.length:Int))) then
   (idx t16 t18).bind fun x2=>
   grd (decide (t302.length<=4294967296))<|
   grd (decide (t312.length<=4294967296))<|
   grd (decide (t322.length<=4294967296))<|
   grd (decide (t332.length<=4294967296))<|
   (
    grd (famG (⟨x2.obj,x2.rel⟩:GRef) t302)<|
    some ():Option (Unit)).bind fun _=>
   grd (decide ((madd (⟨x2.obj,x2.rel⟩:GRef) [x2.sub_] t302).length<=4294967296))<|
   (
    grd (famG x2.sub_ t322)<|
    some ():Option (Unit)).bind fun _=>
   grd (decide ((madd x2.sub_ [(⟨x2.obj,x2.rel⟩:GRef)] t322).length<=4294967296))<|
   (
    grd (famG x2.obj.type_ t312)<|
    some ():Option (Unit)).bind fun _=>
   (if (x2.sub_.rel.toList==({ data:= #[] }:ByteArray).toList) then
    grd (decide ((madd x2.obj.type_ [x2.obj.id_] t312).length<=4294967296))<|
    (
     grd (famG x2.sub_.type_ t332)<|
     some ():Option (Unit)).bind fun _=>
    grd (decide ((madd x2.sub_.type_ [x2.sub_.id_] t332).length<=4294967296))<|
    xp_ n t16 c ((madd (⟨x2.obj,x2.rel⟩:GRef) [x2.sub_] t302),(madd x2.obj.type_ [x2.obj.id_] t312),(madd x2.sub_ [(⟨x2.obj,x2.rel⟩:GRef)] t322),(madd x2.sub_.type_ [x2.sub_.id_] t332),(IntKind.i64.wrap (t18+1)))
   else
    grd (decide ((madd x2.obj.type_ [x2.obj.id_] t312).length<=4294967296))<|
    xp_ n t16 c ((madd (⟨x2.obj,x2.rel⟩:GRef) [x2.sub_] t302),(madd x2.obj.type_ [x2.obj.id_] t312),(madd x2.sub_ [(⟨x2.obj,x2.rel⟩:GRef)] t322),t332,(IntKind.i64.wrap (t18+1))))
  else
   grd (decide (t302.length<=4294967296))<|
   grd (decide (t312.length<=4294967296))<|
   grd (decide (t322.length<=4294967296))<|
   grd (decide (t332.length<=4294967296))<|
   some (t302,t312,t322,t332))
def xX_ (_:Nat)(_:List GTuple)(st:List (GRef × (List GSub)) × List (ByteArray × (List ByteArray)) × List (GSub × (List GRef)) × List (ByteArray × (List ByteArray)))(x2:GTuple)(k:(List (GRef × (List GSub)) × List (ByteArray × (List ByteArray)) × List (GSub × (List GRef)) × List (ByteArray × (List ByteArray)))->Option (List (GRef × (List GSub)) × List (ByteArray × (List ByteArray)) × List (GSub × (List GRef)) × List (ByteArray × (List ByteArray)))):Option (List (GRef × (List GSub)) × List (ByteArray × (List ByteArray)) × List (GSub × (List GRef)) × List (ByteArray × (List ByteArray))):=
 match st with
 |(t302,t312,t322,t332)=>
  grd (decide (t302.length<=4294967296))<|
  grd (decide (t312.length<=4294967296))<|
  grd (decide (t322.length<=4294967296))<|
  grd (decide (t332.length<=4294967296))<|
  (
   grd (famG (⟨x2.obj,x2.rel⟩:GRef) t302)<|
   some ():Option (Unit)).bind fun _=>
  grd (decide ((madd (⟨x2.obj,x2.rel⟩:GRef) [x2.sub_] t302).length<=4294967296))<|
  (
   grd (famG x2.sub_ t322)<|
   some ():Option (Unit)).bind fun _=>
  grd (decide ((madd x2.sub_ [(⟨x2.obj,x2.rel⟩:GRef)] t322).length<=4294967296))<|
  (
   grd (famG x2.obj.type_ t312)<|
   some ():Option (Unit)).bind fun _=>
  (if (x2.sub_.rel.toList==({ data:= #[] }:ByteArray).toList) then
   grd (decide ((madd x2.obj.type_ [x2.obj.id_] t312).length<=4294967296))<|
   (
    grd (famG x2.sub_.type_ t332)<|
    some ():Option (Unit)).bind fun _=>
   grd (decide ((madd x2.sub_.type_ [x2.sub_.id_] t332).length<=4294967296))<|
   k ((madd (⟨x2.obj,x2.rel⟩:GRef) [x2.sub_] t302),(madd x2.obj.type_ [x2.obj.id_] t312),(madd x2.sub_ [(⟨x2.obj,x2.rel⟩:GRef)] t322),(madd x2.sub_.type_ [x2.sub_.id_] t332))
  else
   grd (decide ((madd x2.obj.type_ [x2.obj.id_] t312).length<=4294967296))<|
   k ((madd (⟨x2.obj,x2.rel⟩:GRef) [x2.sub_] t302),(madd x2.obj.type_ [x2.obj.id_] t312),(madd x2.sub_ [(⟨x2.obj,x2.rel⟩:GRef)] t322),t332))
def xY_ (_:Nat)(_:List GTuple)(st:List (GRef × (List GSub)) × List (ByteArray × (List ByteArray)) × List (GSub × (List GRef)) × List (ByteArray × (List ByteArray))):Option (List (GRef × (List GSub)) × List (ByteArray × (List ByteArray)) × List (GSub × (List GRef)) × List (ByteArray × (List ByteArray))):=
 match st with
 |(t302,t312,t322,t332)=>grd (decide (t302.length<=4294967296))<|
 grd (decide (t312.length<=4294967296))<|
 grd (decide (t322.length<=4294967296))<|
 grd (decide (t332.length<=4294967296))<|
 some (t302,t312,t322,t332)
theorem uB_ (n:Nat)(t16:List GTuple)(hx:t16.length<4611686018427387904)(c:Nat)(st:List (GRef × (List GSub)) × List (ByteArray × (List ByteArray)) × List (GSub × (List GRef)) × List (ByteArray × (List ByteArray)))(ix:Nat)(hi:ix<=t16.length)(hc:t16.length-ix<c):xp_ n t16 c (match st,(ix:Int) with |(t302,t312,t322,t332),ix=>(t302,t312,t322,t332,ix))=xj_ (xX_ n t16) (xY_ n t16) (t16.drop ix) st:=
 xb_ (fun c st ix=>xp_ n t16 c (match st,ix with |(t302,t312,t322,t332),ix=>(t302,t312,t322,t332,ix))) t16 (xX_ n t16) (xY_ n t16) (fun _ _ _=>rfl) hx c st ix hi hc
def uC_ (n:Nat)(t0:List GTuple):Option LookIndex:=
 (bi_ n t0).bind fun t16=>
 (
  xp_ n t16 n (([]:List (GRef × (List GSub))),([]:List (ByteArray × (List ByteArray))),([]:List (GSub × (List GRef))),([]:List (ByteArray × (List ByteArray))),0):Option (List (GRef × (List GSub)) × List (ByteArray × (List ByteArray)) × List (GSub × (List GRef)) × List (ByteArray × (List ByteArray)))).bind fun(t304,t314,t324,t334)=>
 grd (decide (t304.length<=4294967296))<|
 grd (decide (t314.length<=4294967296))<|
 grd (decide (t324.length<=4294967296))<|
 grd (decide (t334.length<=4294967296))<|
 some (⟨(⟨t304,t314⟩:LookLeft),(⟨t324,t334⟩:LookRight)⟩:LookIndex)
set_option maxHeartbeats 8000000 in
theorem FO {B j:Nat}(hj:j<4294967296):(∀ {K α:Type} (f:α->List D) (sz B':Nat) (vs:Nat->Nat) (es:List (K × List α)) (hp:Hp),(B'+4294967296<=B\/B+4294967296<=B')->famH f sz B' vs es hp (fid B j)=hp (fid B j))/\
  (∀ {K α:Type} (f:α->List D) (sz B':Nat) (vs:Nat->Nat) (es:List (K × List α)) (x:Option AO) (hp:Hp),(B'+4294967296<=B\/B+4294967296<=B')->upd (fid B j) x (famH f sz B' vs es hp)=famH f sz B' vs es (upd (fid B j) x hp))/\
  (∀(c:Nat) (x y:Option AO) (g:Hp),(c<B\/B+4294967296<=c)->upd (fid B j) x (upd c y g)=upd c y (upd (fid B j) x g))/\(∀c:Nat,B+4294967296<=c->(fid B j=c)=False)/\∀c:Nat,B+4294967296<=c->(c=fid B j)=False:=
 ⟨fun _ _ _ _ _ _ h=>g0_ (by rw[qR_];omega),fun _ _ _ _ _ _ _ h=>nT_ (by rw[qR_];omega),fun _ _ _ _ h=>r5_ (by rw[qR_];omega),fun _ h=>fid_hi hj h,fun _ h=>cw_ hj h⟩
theorem Zf {p q:Prop}{F:Prop}(w:F)(k:q)(e:F->p=q:=by intro w;conv=>lhs;try simp -implicitDefEqProofs only[go_sem,Bool.false_and,Int.reduceToNat,Int.reduceLT,Int.reduceLE,Int.reduceBEq,Int.reduceBNe,Nat.reduceLT,Nat.reduceBEq,Int.reduceEq,Nat.reduceEqDiff,Nat.reduceAdd,Nat.reduceSub,Nat.reduceMul,Nat.reduceLeDiff,reduceCtorEq, ↓reduceIte,eGRel,eGObj,eGSub,eGStep,eGRef,eGTuple,eGType,eWellSchema,eWellName,eLookIndex,or_true,true_or,s0_,nU_,List.set_set,fid_lo,y2_,w]):p:=(e w).mpr k
theorem ZF {n N nx:Nat}{fr' fr:Fr}{hp' hp:Hp}{F:Prop}(w:F)(R:Nat)(JR:Option (Nat × Nat))(rs:List Nat)(L:List (Nat × Nat))(hJ:∀J R',JR=some (J,R')->R'=R:=by first |(intro _ _ h;cases h;done) |(intro _ _ h;cases h;rfl))(h1:okF n N R rs L=true:=by rfl)(h2:∀t,fr' t= .un\/renA (lkF n JR rs L) (fr' t)=some (fr t):=by repeat' (first |exact rf_no _ |refine hc_ (by rfl) ?_))(h3:F->∀i o,hp' i=some o->∃j o',lkF n JR rs L i=some j/\renO (lkF n JR rs L) o=some o'/\hp j=some o':=by intro w;repeat' (first |exact rh_no _ |refine wT_ (gb_ (by rfl) (by rfl) (by rfl)) ?_ |refine wT_ (gb_ (by rfl) (hj_ (by rfl) (by simp) (by first |(intro _ _ h;cases h;done) |(intro J R h;cases h;rw[qR_];omega)) ?_ rfl) (by rfl)) ?_ |refine wT_ (gb_ (by rfl) (hj_ (by rfl) (by simp) (by first |(intro _ _ h;cases h;done) |(intro J R h;cases h;rw[qR_];omega)) ?_ (by assumption)) (by rfl)) ?_ |refine wT_ (gb_ (by rfl) (nV_ (by rfl) (by simp) ?_ (w _)) (by rfl)) ?_ |refine s1_ (by rfl) (by simp) (by first |(intro _ _ h;cases h;done) |(intro J R h;cases h;rw[qR_];omega)) (by assumption) (fun j p h hj=>by first |(cases h;done) |(simp at h;done) |((try dsimp only);repeat (first |with_reducible exact xZ_ h hj |(with_reducible refine y5_ ?_ ?_;rw[qR_];omega) |(with_reducible refine y6_ ?_ ?_;rw[qR_];omega)))) ?_ |refine s1_ (by rfl) (by simp) (by first |(intro _ _ h;cases h;done) |(intro J R h;cases h;rw[qR_];omega)) rfl (fun j p h hj=>by first |(cases h;done) |(simp at h;done) |((try dsimp only);repeat (first |with_reducible exact xZ_ h hj |(with_reducible refine y5_ ?_ ?_;rw[qR_];omega) |(with_reducible refine y6_ ?_ ?_;rw[qR_];omega)))) ?_ |refine cz_ (by rfl) (by simp) ?_ (w _) (fun j p h hj=>by first |(cases h;done) |(simp at h;done) |((try dsimp only);repeat (first |with_reducible exact xZ_ h hj |(with_reducible refine y5_ ?_ ?_;rw[qR_];omega) |(with_reducible refine y6_ ?_ ?_;rw[qR_];omega)))) (by rfl) ?_ |assumption |decide)):WeakR n ⟨fr',hp',N⟩ ⟨fr,hp,nx⟩:=cy_ JR hJ rs L h1 h2 (h3 w)
theorem mv_ {n:Nat}{t0:List GTuple}{r:LookIndex}(H:uC_ n t0=some r):PureA Tryz.prog 64 [.d (D.sl (List.map eGTuple t0))] (D.pt (eLookIndex r) 0) true:=by
 unfold uC_ at H;refine ZPX qf_ fol (rs:= #[.tmp 2]) Tryz.func64 ?_;refine zsq (ZT 1 ?_);refine Z0 ?_;refine zsq (ZT 1 ?_);refine Z0 ?_;refine zsq (zsq ?_);refine ZT 1 ?_;obtain⟨t16,b1,H2⟩:=zbi H;refine Z0 ?_;refine ZC0 (mn_ b1) ?_;refine Z0 ?_;obtain⟨e_,E3,H4⟩:=zbi H2
 refine zjn (α:={ y:List (GRef × (List GSub)) × List (ByteArray × (List ByteArray)) × List (GSub × (List GRef)) × List (ByteArray × (List ByteArray)) // e_=y } × (Nat->Nat) × (Nat->Nat) × (Nat->Nat) × (Nat->Nat)) (fun |⟨⟨⟨t304,t314,t324,t334⟩,_⟩,⟨g21,g22,g23,g24⟩⟩=>⟨upd 3 (.pt 0 0) noFr,upd 0 (some (.bx [.mo 1,.mo 2,.mo 3,.mo 4])) (upd 1 (some (.mo (encF xs_ 4294967296 g21 t304) false)) (upd 2 (some (.mo (encF Value.string 8589934592 g22 t314) false)) (upd 3 (some (.mo (encF xK_ 12884901888 g23 t324) false)) (upd 4 (some (.mo (encF Value.string 17179869184 g24 t334) false)) (famH eGSub 3 4294967296 g21 t304 (famH eS 1 8589934592 g22 t314 (famH eGRef 3 12884901888 g23 t324 (famH eS 1 17179869184 g24 t334 (noHp))))))))),21474836480⟩) ?_ ?_
 ·refine zbk ?_
  refine zlp (α:={ q:(Nat × (List (GRef × (List GSub)) × List (ByteArray × (List ByteArray)) × List (GSub × (List GRef)) × List (ByteArray × (List ByteArray)) × Int)) × (Nat->Nat) × (Nat->Nat) × (Nat->Nat) × (Nat->Nat) // xp_ n t16 q.1.1 q.1.2=some e_ }) (fun |⟨⟨⟨c,⟨t302,t312,t322,t332,t18⟩⟩,⟨g9,g10,g11,g12⟩⟩,_⟩=>⟨upd 3 (.pt 0 0) (upd 16 (.d (.sl (List.map eGTuple t16)) false) (upd 17 (.v (.int .i64 (t16.length:Int))) (upd 18 (.v (.int .i64 t18)) noFr))),upd 0 (some (.bx [.mo 1,.mo 2,.mo 3,.mo 4])) (upd 1 (some (.mo (encF xs_ 4294967296 g9 t302) false)) (upd 2 (some (.mo (encF Value.string 8589934592 g10 t312) false)) (upd 3 (some (.mo (encF xK_ 12884901888 g11 t322) false)) (upd 4 (some (.mo (encF Value.string 17179869184 g12 t332) false)) (famH eGSub 3 4294967296 g9 t302 (famH eS 1 8589934592 g10 t312 (famH eGRef 3 12884901888 g11 t322 (famH eS 1 17179869184 g12 t332 (noHp))))))))),21474836480⟩) (fun q=>q.1.1.1) ⟨((n,(([]:List (GRef × (List GSub))),([]:List (ByteArray × (List ByteArray))),([]:List (GSub × (List GRef))),([]:List (ByteArray × (List ByteArray))),0)),((fun _=>0),(fun _=>0),(fun _=>0),(fun _=>0))),E3⟩ ?_ ?_
  ·exact ZF trivial 340282366920938463463374607431768211457 none [4294967296,8589934592,12884901888,17179869184] [(0,8),(1,1),(2,2),(3,4),(4,5)]
  ·rintro⟨⟨⟨c,⟨t302,t312,t322,t332,t18⟩⟩,⟨g9,g10,g11,g12⟩⟩,L5⟩
   rcases c with _ |c
   ·exact Zx L5
   ·unfold xp_ at L5
    try dsimp only at L5
    refine zsq (ZT 1 ?_);refine Z0 ?_;refine zsq (ZT 1 ?_);refine Z0 ?_;rcases zit L5 with⟨c231,H232⟩ |⟨c231,H232⟩
    ·refine Z1 c231 ?_
     refine zsq (zbk ?_);refine zsq (ZT 1 ?_);obtain⟨x2,b233,H234⟩:=zbi H232;obtain⟨h235,h236⟩:=zix b233;try simp only[Int.reduceToNat,Int.toNat_natCast] at h236
     have h237:=qn_ eGTuple h236;refine Z1 (Y3 c231 (zno .i64 h235) h237) ?_;refine zsq (ZT 1 ?_);refine Z1 (Y3 c231 (zno .i64 h235) h237) ?_;refine zsq ?_;obtain⟨g239,H240⟩:=q9_ H234;have h241:t302.length<=4294967296:=of_decide_eq_true g239;obtain⟨g242,H243⟩:=q9_ H240;have h244:t312.length<=4294967296:=of_decide_eq_true g242;obtain⟨g245,H246⟩:=q9_ H243
     have h247:t322.length<=4294967296:=of_decide_eq_true g245;obtain⟨g248,H249⟩:=q9_ H246;have h250:t332.length<=4294967296:=of_decide_eq_true g248;obtain⟨e_6,E251,H252⟩:=zbi H249
     refine zjn (α:={ y:Unit // e_6=y } × (Nat->Nat)) (fun |⟨⟨_,_⟩,g13⟩=>⟨upd 3 (.pt 0 0) (upd 5 (.pt 5 0) (upd 6 (.pt 6 0) (upd 16 (.d (.sl (List.map eGTuple t16)) false) (upd 17 (.v (.int .i64 (t16.length:Int))) (upd 18 (.v (.int .i64 t18)) noFr))))),upd 0 (some (.bx [.mo 1,.mo 2,.mo 3,.mo 4])) (upd 1 (some (.mo (encF xs_ 4294967296 g13 (madd (⟨x2.obj,x2.rel⟩:GRef) [x2.sub_] t302)) false)) (upd 2 (some (.mo (encF Value.string 8589934592 g10 t312) false)) (upd 3 (some (.mo (encF xK_ 12884901888 g11 t322) false)) (upd 4 (some (.mo (encF Value.string 17179869184 g12 t332) false)) (upd 5 (some (.bx [.v (.string x2.obj.type_),.v (.string x2.obj.id_),.v (.string x2.rel),.v (.string x2.sub_.type_),.v (.string x2.sub_.id_),.v (.string x2.sub_.rel)])) (upd 6 (some (.bx [.v (.string x2.obj.type_),.v (.string x2.obj.id_),.v (.string x2.rel)])) (famH eGSub 3 4294967296 g13 (madd (⟨x2.obj,x2.rel⟩:GRef) [x2.sub_] t302) (famH eS 1 8589934592 g10 t312 (famH eGRef 3 12884901888 g11 t322 (famH eS 1 17179869184 g12 t332 (noHp))))))))))),21474836480⟩) ?_ ?_
     ·refine ZT 1 ?_
      obtain⟨g253,H254⟩:=q9_ E251;obtain⟨g255,g256⟩:=k9_ g253;refine Z0 ?_;rcases v3_ (kv:=xs_) (B:=4294967296) (vs:=g9) vj_ (⟨x2.obj,x2.rel⟩:GRef) t302 with⟨n257,n258,n259⟩ |⟨j5,xs5,o260,o261,o262,o263⟩
      ·have n264:jw_ (true,[.string,.string,.string]) (.agg #[.string x2.obj.type_,.string x2.obj.id_,.string x2.rel]) (encF xs_ 4294967296 g9 t302)=some none:=n258
       refine Zf (Y4 n264 (zA_ n264) (zC_ n264) (vg_ n264)) ?_;refine qj_ (by kernel_rfl) ?_;refine Zf (Y4 n264 (zA_ n264) (zC_ n264) (vg_ n264)) ?_;obtain rfl:=Zi H254
       exact⟨⟨⟨(),rfl⟩,(vsUp (List.length t302) 0 g9)⟩,ZF n259 21474836503 (some (fid 4294967296 (List.length t302),21474836503)) [4294967296,8589934592,12884901888,17179869184] [(0,0),(1,1),(2,2),(3,3),(4,4),(5,21474836483),(6,21474836490)]⟩
      ·have o269:jw_ (true,[.string,.string,.string]) (.agg #[.string x2.obj.type_,.string x2.obj.id_,.string x2.rel]) (encF xs_ 4294967296 g9 t302)=some (some (j5,.so (fid 4294967296 j5) (g9 j5) 0 xs5.length)):=o262
       have h265:j5<4294967296:=Nat.lt_trans (List.getElem?_eq_some_iff.1 o260).1 g255;have h266:∀hp:Hp,famH eGSub 3 4294967296 g9 t302 hp (fid 4294967296 j5)=some (.rw (List.map eGSub xs5) 3 (g9 j5) false false):=fun _=>xZ_ o260 h265
       have h267:(encF xs_ 4294967296 g9 t302)[j5]? =some ((.agg #[.string x2.obj.type_,.string x2.obj.id_,.string x2.rel]),.so (fid 4294967296 j5) (g9 j5) 0 xs5.length):=(y3_ _ _).trans (by rw[o260];rfl);have h268:xs5.length+1<=4294967296:=by have:=g256;simp only[qk_,o261,Option.getD_some] at this;omega
       have h270:=FO (B:=4294967296) h265;obtain⟨zs5,h287⟩:∃zs,xs5++[x2.sub_]=zs:=⟨_,rfl⟩;have h288:List.map eGSub xs5++[[.v (.string x2.sub_.type_),.v (.string x2.sub_.id_),.v (.string x2.sub_.rel)]]=List.map eGSub zs5:=jD_ eGSub h287;have h289:xs5.length+1=zs5.length:=jE_ h287;have h290:zs5.length<=4294967296:=by omega
       have h291:madd (⟨x2.obj,x2.rel⟩:GRef) [x2.sub_] t302=List.set t302 j5 ((⟨x2.obj,x2.rel⟩:GRef),zs5):=by rw[<-h287];exact o263 _
       have h292:∀hp:Hp,upd (fid 4294967296 j5) (some (.rw (List.map eGSub zs5) 3 (g9 j5+1) false false)) (famH eGSub 3 4294967296 g9 t302 hp)=famH eGSub 3 4294967296 (vsUp j5 (g9 j5+1) g9) (List.set t302 j5 ((⟨x2.obj,x2.rel⟩:GRef),zs5)) hp:=fun _=>ya_ (q:=((⟨x2.obj,x2.rel⟩:GRef),zs5)) o260 h265
       have h293:List.set (encF xs_ 4294967296 g9 t302) j5 ((.agg #[.string x2.obj.type_,.string x2.obj.id_,.string x2.rel]),.so (fid 4294967296 j5) (g9 j5+1) 0 zs5.length)=encF xs_ 4294967296 (vsUp j5 (g9 j5+1) g9) (List.set t302 j5 ((⟨x2.obj,x2.rel⟩:GRef),zs5)):=yb_ (q:=((⟨x2.obj,x2.rel⟩:GRef),zs5)) (List.getElem?_eq_some_iff.1 o260).1
       have h294:(List.set t302 j5 ((⟨x2.obj,x2.rel⟩:GRef),zs5)).length<=4294967296:=by rw[List.length_set];exact Nat.le_of_lt g255
       refine Zf (Y3 (Y6 o269 (zB_ o269) (zD_ o269) (vh_ o269) h266 h267) (Y6 (wX_ h267) h268 h270 h288 h289 h290) (Y2 h292 h293)) ?_
       refine g3_ (fid 4294967296 j5) 340282366920938463463374607431768211458 (by have:=h265;rw[qR_];unfold sent;omega) (by decide) (by simp[h270]) (by simp only[List.reverse_cons,List.reverse_nil,List.nil_append,List.cons_append,List.map_cons,List.map_nil,g2_,sw,Nat.reduceLeDiff,Nat.reduceLT,Nat.reduceAdd, ↓reduceIte,y2_,h270];kernel_rfl) ?_
       refine Zf (Y3 (Y6 o269 (zB_ o269) (zD_ o269) (vh_ o269) h266 h267) (Y6 (wX_ h267) h268 h270 h288 h289 h290) (Y2 h292 h293)) ?_;obtain rfl:=Zi H254;exact⟨⟨⟨(),rfl⟩,(vsUp j5 (g9 j5+1) g9)⟩,ZF trivial 340282366920938463463374607431768211457 none [4294967296,8589934592,12884901888,17179869184] [(0,0),(1,1),(2,2),(3,3),(4,4),(5,21474836483),(6,21474836490)]⟩
     ·rintro⟨⟨_,he443⟩,g13⟩
      obtain rfl:=he443.symm;try dsimp only at H252
      refine zsq ?_;obtain⟨g295,H296⟩:=q9_ H252;have h297:(madd (⟨x2.obj,x2.rel⟩:GRef) [x2.sub_] t302).length<=4294967296:=of_decide_eq_true g295;obtain⟨e_7,E298,H299⟩:=zbi H296
      refine zjn (α:={ y:Unit // e_7=y } × (Nat->Nat)) (fun |⟨⟨_,_⟩,g14⟩=>⟨upd 3 (.pt 0 0) (upd 5 (.pt 5 0) (upd 16 (.d (.sl (List.map eGTuple t16)) false) (upd 17 (.v (.int .i64 (t16.length:Int))) (upd 18 (.v (.int .i64 t18)) noFr)))),upd 0 (some (.bx [.mo 1,.mo 2,.mo 3,.mo 4])) (upd 1 (some (.mo (encF xs_ 4294967296 g13 (madd (⟨x2.obj,x2.rel⟩:GRef) [x2.sub_] t302)) false)) (upd 2 (some (.mo (encF Value.string 8589934592 g10 t312) false)) (upd 3 (some (.mo (encF xK_ 12884901888 g14 (madd x2.sub_ [(⟨x2.obj,x2.rel⟩:GRef)] t322)) false)) (upd 4 (some (.mo (encF Value.string 17179869184 g12 t332) false)) (upd 5 (some (.bx [.v (.string x2.obj.type_),.v (.string x2.obj.id_),.v (.string x2.rel),.v (.string x2.sub_.type_),.v (.string x2.sub_.id_),.v (.string x2.sub_.rel)])) (famH eGSub 3 4294967296 g13 (madd (⟨x2.obj,x2.rel⟩:GRef) [x2.sub_] t302) (famH eS 1 8589934592 g10 t312 (famH eGRef 3 12884901888 g14 (madd x2.sub_ [(⟨x2.obj,x2.rel⟩:GRef)] t322) (famH eS 1 17179869184 g12 t332 (noHp)))))))))),21474836480⟩) ?_ ?_
      ·refine ZT 1 ?_
       obtain⟨g300,H301⟩:=q9_ E298;obtain⟨g302,g303⟩:=k9_ g300;refine Z0 ?_;rcases v3_ (kv:=xK_) (B:=12884901888) (vs:=g11) sw_ x2.sub_ t322 with⟨n304,n305,n306⟩ |⟨j6,xs6,o307,o308,o309,o310⟩
       ·have n311:jw_ (true,[.string,.string,.string]) (.agg #[.string x2.sub_.type_,.string x2.sub_.id_,.string x2.sub_.rel]) (encF xK_ 12884901888 g11 t322)=some none:=n305
        refine Zf (Y4 n311 (zA_ n311) (zC_ n311) (vg_ n311)) ?_;refine qj_ (by kernel_rfl) ?_;refine Zf (Y4 n311 (zA_ n311) (zC_ n311) (vg_ n311)) ?_;obtain rfl:=Zi H301
        exact⟨⟨⟨(),rfl⟩,(vsUp (List.length t322) 0 g11)⟩,ZF n306 21474836491 (some (fid 12884901888 (List.length t322),21474836491)) [4294967296,8589934592,12884901888,17179869184] [(0,0),(1,1),(2,2),(3,3),(4,4),(5,5)]⟩
       ·have o316:jw_ (true,[.string,.string,.string]) (.agg #[.string x2.sub_.type_,.string x2.sub_.id_,.string x2.sub_.rel]) (encF xK_ 12884901888 g11 t322)=some (some (j6,.so (fid 12884901888 j6) (g11 j6) 0 xs6.length)):=o309
        have h312:j6<4294967296:=Nat.lt_trans (List.getElem?_eq_some_iff.1 o307).1 g302;have h313:∀hp:Hp,famH eGRef 3 12884901888 g11 t322 hp (fid 12884901888 j6)=some (.rw (List.map eGRef xs6) 3 (g11 j6) false false):=fun _=>xZ_ o307 h312
        have h314:(encF xK_ 12884901888 g11 t322)[j6]? =some ((.agg #[.string x2.sub_.type_,.string x2.sub_.id_,.string x2.sub_.rel]),.so (fid 12884901888 j6) (g11 j6) 0 xs6.length):=(y3_ _ _).trans (by rw[o307];rfl);have h315:xs6.length+1<=4294967296:=by have:=g303;simp only[qk_,o308,Option.getD_some] at this;omega
        have h317:=FO (B:=12884901888) h312;obtain⟨zs6,h334⟩:∃zs,xs6++[(⟨x2.obj,x2.rel⟩:GRef)]=zs:=⟨_,rfl⟩;have h335:List.map eGRef xs6++[[.v (.string x2.obj.type_),.v (.string x2.obj.id_),.v (.string x2.rel)]]=List.map eGRef zs6:=jD_ eGRef h334;have h336:xs6.length+1=zs6.length:=jE_ h334;have h337:zs6.length<=4294967296:=by omega
        have h338:madd x2.sub_ [(⟨x2.obj,x2.rel⟩:GRef)] t322=List.set t322 j6 (x2.sub_,zs6):=by rw[<-h334];exact o310 _
        have h339:∀hp:Hp,upd (fid 12884901888 j6) (some (.rw (List.map eGRef zs6) 3 (g11 j6+1) false false)) (famH eGRef 3 12884901888 g11 t322 hp)=famH eGRef 3 12884901888 (vsUp j6 (g11 j6+1) g11) (List.set t322 j6 (x2.sub_,zs6)) hp:=fun _=>ya_ (q:=(x2.sub_,zs6)) o307 h312
        have h340:List.set (encF xK_ 12884901888 g11 t322) j6 ((.agg #[.string x2.sub_.type_,.string x2.sub_.id_,.string x2.sub_.rel]),.so (fid 12884901888 j6) (g11 j6+1) 0 zs6.length)=encF xK_ 12884901888 (vsUp j6 (g11 j6+1) g11) (List.set t322 j6 (x2.sub_,zs6)):=yb_ (q:=(x2.sub_,zs6)) (List.getElem?_eq_some_iff.1 o307).1
        have h341:(List.set t322 j6 (x2.sub_,zs6)).length<=4294967296:=by rw[List.length_set];exact Nat.le_of_lt g302
        refine Zf (Y3 (Y6 o316 (zB_ o316) (zD_ o316) (vh_ o316) h313 h314) (Y6 (wX_ h314) h315 h317 h335 h336 h337) (Y2 h339 h340)) ?_
        refine g3_ (fid 12884901888 j6) 340282366920938463463374607431768211458 (by have:=h312;rw[qR_];unfold sent;omega) (by decide) (by simp[h317]) (by simp only[List.reverse_cons,List.reverse_nil,List.nil_append,List.cons_append,List.map_cons,List.map_nil,g2_,sw,Nat.reduceLeDiff,Nat.reduceLT,Nat.reduceAdd, ↓reduceIte,y2_,h317];kernel_rfl) ?_
        refine Zf (Y3 (Y6 o316 (zB_ o316) (zD_ o316) (vh_ o316) h313 h314) (Y6 (wX_ h314) h315 h317 h335 h336 h337) (Y2 h339 h340)) ?_;obtain rfl:=Zi H301;exact⟨⟨⟨(),rfl⟩,(vsUp j6 (g11 j6+1) g11)⟩,ZF trivial 340282366920938463463374607431768211457 none [4294967296,8589934592,12884901888,17179869184] [(0,0),(1,1),(2,2),(3,3),(4,4),(5,5)]⟩
      ·rintro⟨⟨_,he442⟩,g14⟩
       obtain rfl:=he442.symm;try dsimp only at H299
       refine zsq ?_;obtain⟨g342,H343⟩:=q9_ H299;have h344:(madd x2.sub_ [(⟨x2.obj,x2.rel⟩:GRef)] t322).length<=4294967296:=of_decide_eq_true g342;obtain⟨e_8,E345,H346⟩:=zbi H343
       refine zjn (α:={ y:Unit // e_8=y } × (Nat->Nat)) (fun |⟨⟨_,_⟩,g15⟩=>⟨upd 3 (.pt 0 0) (upd 5 (.pt 5 0) (upd 16 (.d (.sl (List.map eGTuple t16)) false) (upd 17 (.v (.int .i64 (t16.length:Int))) (upd 18 (.v (.int .i64 t18)) noFr)))),upd 0 (some (.bx [.mo 1,.mo 2,.mo 3,.mo 4])) (upd 1 (some (.mo (encF xs_ 4294967296 g13 (madd (⟨x2.obj,x2.rel⟩:GRef) [x2.sub_] t302)) false)) (upd 2 (some (.mo (encF Value.string 8589934592 g15 (madd x2.obj.type_ [x2.obj.id_] t312)) false)) (upd 3 (some (.mo (encF xK_ 12884901888 g14 (madd x2.sub_ [(⟨x2.obj,x2.rel⟩:GRef)] t322)) false)) (upd 4 (some (.mo (encF Value.string 17179869184 g12 t332) false)) (upd 5 (some (.bx [.v (.string x2.obj.type_),.v (.string x2.obj.id_),.v (.string x2.rel),.v (.string x2.sub_.type_),.v (.string x2.sub_.id_),.v (.string x2.sub_.rel)])) (famH eGSub 3 4294967296 g13 (madd (⟨x2.obj,x2.rel⟩:GRef) [x2.sub_] t302) (famH eS 1 8589934592 g15 (madd x2.obj.type_ [x2.obj.id_] t312) (famH eGRef 3 12884901888 g14 (madd x2.sub_ [(⟨x2.obj,x2.rel⟩:GRef)] t322) (famH eS 1 17179869184 g12 t332 (noHp)))))))))),21474836480⟩) ?_ ?_
       ·refine ZT 1 ?_
        obtain⟨g347,H348⟩:=q9_ E345;obtain⟨g349,g350⟩:=k9_ g347;refine Z0 ?_;rcases v3_ (kv:=Value.string) (B:=8589934592) (vs:=g10) vf_ x2.obj.type_ t312 with⟨n351,n352,n353⟩ |⟨j7,xs7,o354,o355,o356,o357⟩
        ·have n358:jw_ (false,[.string]) (.string x2.obj.type_) (encF Value.string 8589934592 g10 t312)=some none:=n352
         refine Zf (Y4 n358 (zA_ n358) (zC_ n358) (vg_ n358)) ?_;refine qj_ (by kernel_rfl) ?_;refine Zf (Y4 n358 (zA_ n358) (zC_ n358) (vg_ n358)) ?_;obtain rfl:=Zi H348
         exact⟨⟨⟨(),rfl⟩,(vsUp (List.length t312) 0 g10)⟩,ZF n353 21474836501 (some (fid 8589934592 (List.length t312),21474836501)) [4294967296,8589934592,12884901888,17179869184] [(0,0),(1,1),(2,2),(3,3),(4,4),(5,5)]⟩
        ·have o363:jw_ (false,[.string]) (.string x2.obj.type_) (encF Value.string 8589934592 g10 t312)=some (some (j7,.so (fid 8589934592 j7) (g10 j7) 0 xs7.length)):=o356
         have h359:j7<4294967296:=Nat.lt_trans (List.getElem?_eq_some_iff.1 o354).1 g349;have h360:∀hp:Hp,famH eS 1 8589934592 g10 t312 hp (fid 8589934592 j7)=some (.rw (List.map eS xs7) 1 (g10 j7) false false):=fun _=>xZ_ o354 h359
         have h361:(encF Value.string 8589934592 g10 t312)[j7]? =some ((.string x2.obj.type_),.so (fid 8589934592 j7) (g10 j7) 0 xs7.length):=(y3_ _ _).trans (by rw[o354];rfl);have h362:xs7.length+1<=4294967296:=by have:=g350;simp only[qk_,o355,Option.getD_some] at this;omega
         have h364:=FO (B:=8589934592) h359;obtain⟨zs7,h379⟩:∃zs,xs7++[x2.obj.id_]=zs:=⟨_,rfl⟩;have h380:List.map eS xs7++[[.v (.string x2.obj.id_)]]=List.map eS zs7:=jD_ eS h379;have h381:xs7.length+1=zs7.length:=jE_ h379;have h382:zs7.length<=4294967296:=by omega
         have h383:madd x2.obj.type_ [x2.obj.id_] t312=List.set t312 j7 (x2.obj.type_,zs7):=by rw[<-h379];exact o357 _
         have h384:∀hp:Hp,upd (fid 8589934592 j7) (some (.rw (List.map eS zs7) 1 (g10 j7+1) false false)) (famH eS 1 8589934592 g10 t312 hp)=famH eS 1 8589934592 (vsUp j7 (g10 j7+1) g10) (List.set t312 j7 (x2.obj.type_,zs7)) hp:=fun _=>ya_ (q:=(x2.obj.type_,zs7)) o354 h359
         have h385:List.set (encF Value.string 8589934592 g10 t312) j7 ((.string x2.obj.type_),.so (fid 8589934592 j7) (g10 j7+1) 0 zs7.length)=encF Value.string 8589934592 (vsUp j7 (g10 j7+1) g10) (List.set t312 j7 (x2.obj.type_,zs7)):=yb_ (q:=(x2.obj.type_,zs7)) (List.getElem?_eq_some_iff.1 o354).1
         have h386:(List.set t312 j7 (x2.obj.type_,zs7)).length<=4294967296:=by rw[List.length_set];exact Nat.le_of_lt g349
         refine Zf (Y3 (Y6 o363 (zB_ o363) (zD_ o363) (vh_ o363) h360 h361) (Y6 (wX_ h361) h362 h364 h380 h381 h382) (Y2 h384 h385)) ?_
         refine g3_ (fid 8589934592 j7) 340282366920938463463374607431768211458 (by have:=h359;rw[qR_];unfold sent;omega) (by decide) (by simp[h364]) (by simp only[List.reverse_cons,List.reverse_nil,List.nil_append,List.cons_append,List.map_cons,List.map_nil,g2_,sw,Nat.reduceLeDiff,Nat.reduceLT,Nat.reduceAdd, ↓reduceIte,y2_,h364];kernel_rfl) ?_
         refine Zf (Y3 (Y6 o363 (zB_ o363) (zD_ o363) (vh_ o363) h360 h361) (Y6 (wX_ h361) h362 h364 h380 h381 h382) (Y2 h384 h385)) ?_;obtain rfl:=Zi H348;exact⟨⟨⟨(),rfl⟩,(vsUp j7 (g10 j7+1) g10)⟩,ZF trivial 340282366920938463463374607431768211457 none [4294967296,8589934592,12884901888,17179869184] [(0,0),(1,1),(2,2),(3,3),(4,4),(5,5)]⟩
       ·rintro⟨⟨_,he441⟩,g15⟩
        obtain rfl:=he441.symm;try dsimp only at H346
        refine zsq (ZT 1 ?_);refine Z0 ?_;rcases zit H346 with⟨c387,H388⟩ |⟨c387,H388⟩
        ·refine qs_ (by rfl) c387 ?_
         refine Z1 c387 ?_;obtain⟨g389,H390⟩:=q9_ H388;have h391:(madd x2.obj.type_ [x2.obj.id_] t312).length<=4294967296:=of_decide_eq_true g389;obtain⟨e_9,E392,H393⟩:=zbi H390
         refine zjn (α:={ y:Unit // e_9=y } × (Nat->Nat)) (fun |⟨⟨_,_⟩,g16⟩=>⟨upd 3 (.pt 0 0) (upd 16 (.d (.sl (List.map eGTuple t16)) false) (upd 17 (.v (.int .i64 (t16.length:Int))) (upd 18 (.v (.int .i64 t18)) noFr))),upd 0 (some (.bx [.mo 1,.mo 2,.mo 3,.mo 4])) (upd 1 (some (.mo (encF xs_ 4294967296 g13 (madd (⟨x2.obj,x2.rel⟩:GRef) [x2.sub_] t302)) false)) (upd 2 (some (.mo (encF Value.string 8589934592 g15 (madd x2.obj.type_ [x2.obj.id_] t312)) false)) (upd 3 (some (.mo (encF xK_ 12884901888 g14 (madd x2.sub_ [(⟨x2.obj,x2.rel⟩:GRef)] t322)) false)) (upd 4 (some (.mo (encF Value.string 17179869184 g16 (madd x2.sub_.type_ [x2.sub_.id_] t332)) false)) (famH eGSub 3 4294967296 g13 (madd (⟨x2.obj,x2.rel⟩:GRef) [x2.sub_] t302) (famH eS 1 8589934592 g15 (madd x2.obj.type_ [x2.obj.id_] t312) (famH eGRef 3 12884901888 g14 (madd x2.sub_ [(⟨x2.obj,x2.rel⟩:GRef)] t322) (famH eS 1 17179869184 g16 (madd x2.sub_.type_ [x2.sub_.id_] t332) (noHp))))))))),21474836480⟩) ?_ ?_
         ·refine ZT 1 ?_
          obtain⟨g394,H395⟩:=q9_ E392;obtain⟨g396,g397⟩:=k9_ g394;refine Z0 ?_;rcases v3_ (kv:=Value.string) (B:=17179869184) (vs:=g12) vf_ x2.sub_.type_ t332 with⟨n398,n399,n400⟩ |⟨j8,xs8,o401,o402,o403,o404⟩
          ·have n405:jw_ (false,[.string]) (.string x2.sub_.type_) (encF Value.string 17179869184 g12 t332)=some none:=n399
           refine Zf (Y4 n405 (zA_ n405) (zC_ n405) (vg_ n405)) ?_;refine qj_ (by kernel_rfl) ?_;refine Zf (Y4 n405 (zA_ n405) (zC_ n405) (vg_ n405)) ?_;obtain rfl:=Zi H395
           exact⟨⟨⟨(),rfl⟩,(vsUp (List.length t332) 0 g12)⟩,ZF n400 21474836505 (some (fid 17179869184 (List.length t332),21474836505)) [4294967296,8589934592,12884901888,17179869184] [(0,0),(1,1),(2,2),(3,3),(4,4)]⟩
          ·have o410:jw_ (false,[.string]) (.string x2.sub_.type_) (encF Value.string 17179869184 g12 t332)=some (some (j8,.so (fid 17179869184 j8) (g12 j8) 0 xs8.length)):=o403
           have h406:j8<4294967296:=Nat.lt_trans (List.getElem?_eq_some_iff.1 o401).1 g396;have h407:∀hp:Hp,famH eS 1 17179869184 g12 t332 hp (fid 17179869184 j8)=some (.rw (List.map eS xs8) 1 (g12 j8) false false):=fun _=>xZ_ o401 h406
           have h408:(encF Value.string 17179869184 g12 t332)[j8]? =some ((.string x2.sub_.type_),.so (fid 17179869184 j8) (g12 j8) 0 xs8.length):=(y3_ _ _).trans (by rw[o401];rfl);have h409:xs8.length+1<=4294967296:=by have:=g397;simp only[qk_,o402,Option.getD_some] at this;omega
           have h411:=FO (B:=17179869184) h406;obtain⟨zs8,h426⟩:∃zs,xs8++[x2.sub_.id_]=zs:=⟨_,rfl⟩;have h427:List.map eS xs8++[[.v (.string x2.sub_.id_)]]=List.map eS zs8:=jD_ eS h426;have h428:xs8.length+1=zs8.length:=jE_ h426;have h429:zs8.length<=4294967296:=by omega
           have h430:madd x2.sub_.type_ [x2.sub_.id_] t332=List.set t332 j8 (x2.sub_.type_,zs8):=by rw[<-h426];exact o404 _
           have h431:∀hp:Hp,upd (fid 17179869184 j8) (some (.rw (List.map eS zs8) 1 (g12 j8+1) false false)) (famH eS 1 17179869184 g12 t332 hp)=famH eS 1 17179869184 (vsUp j8 (g12 j8+1) g12) (List.set t332 j8 (x2.sub_.type_,zs8)) hp:=fun _=>ya_ (q:=(x2.sub_.type_,zs8)) o401 h406
           have h432:List.set (encF Value.string 17179869184 g12 t332) j8 ((.string x2.sub_.type_),.so (fid 17179869184 j8) (g12 j8+1) 0 zs8.length)=encF Value.string 17179869184 (vsUp j8 (g12 j8+1) g12) (List.set t332 j8 (x2.sub_.type_,zs8)):=yb_ (q:=(x2.sub_.type_,zs8)) (List.getElem?_eq_some_iff.1 o401).1
           have h433:(List.set t332 j8 (x2.sub_.type_,zs8)).length<=4294967296:=by rw[List.length_set];exact Nat.le_of_lt g396
           refine Zf (Y3 (Y6 o410 (zB_ o410) (zD_ o410) (vh_ o410) h407 h408) (Y6 (wX_ h408) h409 h411 h427 h428 h429) (Y2 h431 h432)) ?_
           refine g3_ (fid 17179869184 j8) 340282366920938463463374607431768211458 (by have:=h406;rw[qR_];unfold sent;omega) (by decide) (by simp[h411]) (by simp only[List.reverse_cons,List.reverse_nil,List.nil_append,List.cons_append,List.map_cons,List.map_nil,g2_,sw,Nat.reduceLeDiff,Nat.reduceLT,Nat.reduceAdd, ↓reduceIte,y2_,h411];kernel_rfl) ?_
           refine Zf (Y3 (Y6 o410 (zB_ o410) (zD_ o410) (vh_ o410) h407 h408) (Y6 (wX_ h408) h409 h411 h427 h428 h429) (Y2 h431 h432)) ?_;obtain rfl:=Zi H395;exact⟨⟨⟨(),rfl⟩,(vsUp j8 (g12 j8+1) g12)⟩,ZF trivial 340282366920938463463374607431768211457 none [4294967296,8589934592,12884901888,17179869184] [(0,0),(1,1),(2,2),(3,3),(4,4)]⟩
         ·rintro⟨⟨_,he437⟩,g16⟩
          obtain rfl:=he437.symm;try dsimp only at H393
          refine Z0 ?_;refine ZT 1 ?_;refine Z0 ?_;obtain⟨g434,H435⟩:=q9_ H393;have h436:(madd x2.sub_.type_ [x2.sub_.id_] t332).length<=4294967296:=of_decide_eq_true g434
          exact⟨⟨((c,((madd (⟨x2.obj,x2.rel⟩:GRef) [x2.sub_] t302),(madd x2.obj.type_ [x2.obj.id_] t312),(madd x2.sub_ [(⟨x2.obj,x2.rel⟩:GRef)] t322),(madd x2.sub_.type_ [x2.sub_.id_] t332),(IntKind.i64.wrap (t18+1)))),(g13,g15,g14,g16)),H435⟩,ZF trivial 340282366920938463463374607431768211457 none [4294967296,8589934592,12884901888,17179869184] [(0,0),(1,1),(2,2),(3,3),(4,4)],Nat.lt_succ_self _⟩
        ·refine qg_ (by rfl) c387 ?_
         refine Z1 c387 ?_;refine ZT 3 ?_;refine Z1 c387 ?_;obtain⟨g438,H439⟩:=q9_ H388;have h440:(madd x2.obj.type_ [x2.obj.id_] t312).length<=4294967296:=of_decide_eq_true g438
         exact⟨⟨((c,((madd (⟨x2.obj,x2.rel⟩:GRef) [x2.sub_] t302),(madd x2.obj.type_ [x2.obj.id_] t312),(madd x2.sub_ [(⟨x2.obj,x2.rel⟩:GRef)] t322),t332,(IntKind.i64.wrap (t18+1)))),(g13,g15,g14,g12)),H439⟩,ZF trivial 340282366920938463463374607431768211457 none [4294967296,8589934592,12884901888,17179869184] [(0,0),(1,1),(2,2),(3,3),(4,4)],Nat.lt_succ_self _⟩
    ·refine Z1 c231 ?_
     obtain⟨g444,H445⟩:=q9_ H232;have h446:t302.length<=4294967296:=of_decide_eq_true g444;obtain⟨g447,H448⟩:=q9_ H445;have h449:t312.length<=4294967296:=of_decide_eq_true g447;obtain⟨g450,H451⟩:=q9_ H448;have h452:t322.length<=4294967296:=of_decide_eq_true g450;obtain⟨g453,H454⟩:=q9_ H451;have h455:t332.length<=4294967296:=of_decide_eq_true g453
     obtain rfl:=Zi H454;exact⟨⟨⟨(t302,t312,t322,t332),rfl⟩,(g9,g10,g11,g12)⟩,ZF trivial 340282366920938463463374607431768211457 none [4294967296,8589934592,12884901888,17179869184] [(0,0),(1,1),(2,2),(3,3),(4,4)]⟩
 ·rintro⟨⟨⟨t304,t314,t324,t334⟩,he468⟩,⟨g21,g22,g23,g24⟩⟩
  obtain rfl:=he468.symm;try dsimp only at H4
  refine ZT 1 ?_;refine Z0 ?_;obtain⟨g456,H457⟩:=q9_ H4;have h458:t304.length<=4294967296:=of_decide_eq_true g456;obtain⟨g459,H460⟩:=q9_ H457;have h461:t314.length<=4294967296:=of_decide_eq_true g459;obtain⟨g462,H463⟩:=q9_ H460;have h464:t324.length<=4294967296:=of_decide_eq_true g462;obtain⟨g465,H466⟩:=q9_ H463
  have h467:t334.length<=4294967296:=of_decide_eq_true g465;obtain rfl:=Zi H466
  exact xN_ (b:=false) (v:=.pt 0 0) (by first |(simp -implicitDefEqProofs only[go_sem, ↓reduceIte]<;>rfl) |rfl) (ToXR.val (ToXV.one (ToX.place (by rfl) (PW.cons (ToX.fam (by rfl) h458 (fun j p h hj=>by repeat (first |with_reducible exact xZ_ h hj |(with_reducible refine y5_ ?_ ?_;rw[qR_];omega) |(with_reducible refine y6_ ?_ ?_;rw[qR_];omega)))) (PW.cons (ToX.fam (by rfl) h461 (fun j p h hj=>by repeat (first |with_reducible exact xZ_ h hj |(with_reducible refine y5_ ?_ ?_;rw[qR_];omega) |(with_reducible refine y6_ ?_ ?_;rw[qR_];omega)))) (PW.cons (ToX.fam (by rfl) h464 (fun j p h hj=>by repeat (first |with_reducible exact xZ_ h hj |(with_reducible refine y5_ ?_ ?_;rw[qR_];omega) |(with_reducible refine y6_ ?_ ?_;rw[qR_];omega)))) (PW.cons (ToX.fam (by rfl) h467 (fun j p h hj=>by repeat (first |with_reducible exact xZ_ h hj |(with_reducible refine y5_ ?_ ?_;rw[qR_];omega) |(with_reducible refine y6_ ?_ ?_;rw[qR_];omega)))) PW.nil))))) rfl)) (by intro h;first |rfl |cases h)
end Go.Proofs.YtnmkbmefohakmaaGreat.Ab
